-- Written by a program of this session's (wip/gprint.py): the kit's print, with functions given by hand.
import Derived.Test.YtojedfmmijglnaaPSpreadTellsx7a
namespace Go.Proofs.Ytojedfmmijglnaa.PSpreadTells
open Go.RowKit Go.Proofs.YtojedfmmijglnaaW.PrintWords Go.Proofs.YtojedfmmijglnaaW.PrintLast Go.Proofs.YtojedfmmijglnaaW.PrintMore
attribute [local go_sem] max2_int min2_int max_two min_two max_three min_three max_four min_four   -- for this text's walks alone
set_option linter.unusedVariables false
set_option linter.unusedSimpArgs false
set_option maxHeartbeats 8000000 in
set_option maxRecDepth 100000 in
noncomputable def meterlaw18_SpreadTells.calls_cut2 : PSigma fun G0_ : Prop => PSigma fun G1_ : Prop => Aside0 G0_ → Aside0 G1_ → meterlaw18_SpreadTells.calls_cut.1 :=
 ⟨_, _,  fun hole0_ hole1_ => by
  intro k a0_0 a0_1 A0_2 c0_2 l0_2 a1_0 a1_1 A1_2 c1_2 l1_2 a2 A3 c3 l3 r w hu24 hu41 HR0_2 HC0_2 HR1_2 HC1_2 HR3 HC3 HB HRT t214 H A5 c6
  subst c6
  have H1 : (if (l0_2.length : Int) > 1000 then (meterlaw18_SpreadTells.j0 k a2 l3 true a0_0 a0_1 l0_2 a1_0 a1_1 l1_2) else (if (l1_2.length : Int) > 1000 then (meterlaw18_SpreadTells.j0 k a2 l3 true a0_0 a0_1 l0_2 a1_0 a1_1 l1_2) else (meterlaw18_SpreadTells.j0 k a2 l3 (decide ((l3.length : Int) > 1000)) a0_0 a0_1 l0_2 a1_0 a1_1 l1_2))) = some r := by rw [if_pos rfl] at H; exact H
  clear H
  have H := H1
  clear H1
  have HC7 := qM H
  clear H
  go_enter Try.func5, Try.ntmps5
  go_upto_region 3 with (first | ((with_reducible refine gate_dst (N := 4) rfl ?_); (try (refine gate_guard (by rfl) ?_; dsimp only)); refine box_event ?hg (N := 4) ?hd (cs := #[.int .i64 a0_0, .int .i64 a0_1, .slice A0_2 l0_2.length c0_2]) (t := 24) ?hr ?_; (case hd => rfl); (case hg => rfl); (case hr => first | (go_simp; done) | (go_simp; rfl)); intro gb212 hg w8 hbox hb; have n0_ := qM (below_step (by repeat (first | (with_reducible first | exact HB.out | apply below_alloc | apply pw_below_drewN | apply below_drew1) | exact HB.out)) hb); have n1_ := qM (hbox); have n2_ := qM ((by rw [hg]; exact (below_size (by repeat (first | (with_reducible first | exact HB.out | apply below_alloc | apply pw_below_drewN | apply below_drew1) | exact HB.out))) : w.heap.size ≤ gb212)); have n3_ := qM ((by rw [hg]; exact (below_size (by repeat (first | (with_reducible first | exact HB.out | apply below_alloc | apply pw_below_drewN | apply below_drew1) | exact HB.out))) : w.heap.size ≤ gb212)); clear HB; have HB := n0_; have BK212 := n1_; have GW212 := n2_; have GE212 := n3_; clear n0_ n1_ n2_ n3_; clear hb hbox hg) | ((with_reducible refine gate_dst (N := 5) rfl ?_); (try (refine gate_guard (by rfl) ?_; dsimp only)); refine box_event ?hg (N := 5) ?hd (cs := #[.int .i64 a1_0, .int .i64 a1_1, .slice A1_2 l1_2.length c1_2]) (t := 24) ?hr ?_; (case hd => rfl); (case hg => rfl); (case hr => first | (go_simp; done) | (go_simp; rfl)); intro gb213 hg w9 hbox hb; have n0_ := qM (blk_below (g := gb212) (o := .cells #[.int .i64 a0_0, .int .i64 a0_1, .slice A0_2 l0_2.length c0_2] 24 (0, 0)) (by (with_reducible repeat (first | apply bN | apply bD | apply bA)); exact BK212.out) hb); have n1_ := qM (below_step (by repeat (first | (with_reducible first | exact HB.out | apply below_alloc | apply pw_below_drewN | apply below_drew1 | refine below_set ?_ GE212.out) | exact HB.out)) hb); have n2_ := qM (hbox); have n3_ := qM ((by rw [hg]; exact (below_size (by repeat (first | (with_reducible first | exact HB.out | apply below_alloc | apply pw_below_drewN | apply below_drew1 | refine below_set ?_ GE212.out) | exact HB.out))) : w.heap.size ≤ gb213)); have n4_ := qM ((by rw [hg]; exact (below_size (by repeat (first | (with_reducible first | exact HB.out | apply below_alloc | apply pw_below_drewN | apply below_drew1 | refine below_set ?_ GE212.out) | exact HB.out))) : w.heap.size ≤ gb213)); have n5_ := qM ((by rw [hg]; exact Nat.ne_of_lt (blk_lt (g := gb212) (o := .cells #[.int .i64 a0_0, .int .i64 a0_1, .slice A0_2 l0_2.length c0_2] 24 (0, 0)) (by (with_reducible repeat (first | apply bN | apply bD | apply bA)); exact BK212.out)) : gb212 ≠ gb213)); have n6_ := qM ((by rw [hg]; exact Nat.ne_of_gt (blk_lt (g := gb212) (o := .cells #[.int .i64 a0_0, .int .i64 a0_1, .slice A0_2 l0_2.length c0_2] 24 (0, 0)) (by (with_reducible repeat (first | apply bN | apply bD | apply bA)); exact BK212.out)) : gb213 ≠ gb212)); clear BK212; clear HB; have BK212 := n0_; have HB := n1_; have BK213 := n2_; have GW213 := n3_; have GE213 := n4_; have NB212_213 := n5_; have NB213_212 := n6_; clear n0_ n1_ n2_ n3_ n4_ n5_ n6_; clear hb hbox hg) | ((with_reducible refine gate_callee (f := 8) rfl ?_); refine goesL_ (some 27) rfl rfl Try.func8 (by kernel_rfl) rfl #[] rfl (by (try simp only [List.map_toArray, List.map_cons, List.map_nil]); first | done | rfl | (simp only [List.length_drop, List.length_take]; rfl)) ?_; (with_reducible refine (meterlaw18_awake.calls  true _ A5.out).mono ?_); rintro e w10 ⟨rfl, hb⟩; refine ⟨_, rfl, ?_⟩; have n0_ := qM (blk_below (g := gb212) (o := .cells #[.int .i64 a0_0, .int .i64 a0_1, .slice A0_2 l0_2.length c0_2] 24 (0, 0)) (by (with_reducible repeat (first | apply bN | apply bD | apply bA)); exact BK212.out) hb); have n1_ := qM (blk_below (g := gb213) (o := .cells #[.int .i64 a1_0, .int .i64 a1_1, .slice A1_2 l1_2.length c1_2] 24 (0, 0)) (by (with_reducible repeat (first | apply bN | apply bD | apply bA)); exact BK213.out) hb); have n2_ := qM (below_step (by repeat (first | (with_reducible first | exact HB.out | apply below_alloc | apply pw_below_drewN | apply below_drew1 | refine below_set ?_ GE212.out | refine below_set ?_ GE213.out) | exact HB.out)) hb); clear BK212; clear BK213; clear HB; have BK212 := n0_; have BK213 := n1_; have HB := n2_; clear n0_ n1_ n2_; (try clear hb); (try clear hb2); (try clear hk); (try clear hi)))
  (try simp only [Act.put, List.setIfInBounds_toArray, List.set_cons_zero, List.set_cons_succ])
  go_cut [43] (fun v43 wc => ∃ (kq : Nat) (x43_6 : Bool), v43 = .bool x43_6 ∧ Aside0 (meterlaw18_SpreadTells.j0 kq a2 l3 x43_6 a0_0 a0_1 l0_2 a1_0 a1_1 l1_2 = some r) ∧ Aside0 (kq ≤ k) ∧ Aside0 (wc.heap[gb212]? = some (.cells #[.int .i64 a0_0, .int .i64 a0_1, (.slice A0_2 l0_2.length c0_2)] 24 (0, 0))) ∧ Aside0 (wc.heap[gb213]? = some (.cells #[.int .i64 a1_0, .int .i64 a1_1, (.slice A1_2 l1_2.length c1_2)] 24 (0, 0))) ∧ Aside0 (Below w.heap.size w wc))
  case first =>
   have H := HC7.out
   clear HC7
   by_cases c11 : (l0_2.length : Int) > 1000
   · rw [if_pos c11] at H
     have c11b0 : decide (1000 < (l0_2.length : Int)) = true := decide_eq_true c11
     have c11b1 : decide (1000 < l0_2.length) = true := decide_eq_true (by omega)
     clear c11
     (first | rw [c11b0] | (simp only [i64_w, i32_w]; rw [c11b0]) | skip)
     have H' := qM H
     clear H
     have hnb12 := NB212_213.out
     have hnc12 := NB213_212.out
     have hcz13_0 : w10.cell? ⟨gb212, 0, none⟩ = some (.int .i64 a0_0) := (blk_cell BK212.out 0).trans rfl
     have hcz13_1 : w10.cell? ⟨gb212, 1, none⟩ = some (.int .i64 a0_1) := (blk_cell BK212.out 1).trans rfl
     have hcz13_2 : w10.cell? ⟨gb212, 2, none⟩ = some (.slice A0_2 l0_2.length c0_2) := (blk_cell BK212.out 2).trans rfl
     have hfz13_0 := blk_frozen BK212.out 0
     have hfz13_1 := blk_frozen BK212.out 1
     have hfz13_2 := blk_frozen BK212.out 2
     go_wp2
     go_meet
     case rel => exact ⟨_, (true), (by first | rfl | (simp; done) | (simp [*]; done) | (congr 1; simp only [eq_iff_iff, iff_true, ByteArray.size_append] at *; unfold wrap64; omega) | (congr 2; simp only [eq_iff_iff, iff_true, ByteArray.size_append] at *; unfold wrap64; omega)), H', ⟨by first | omega | exact Nat.le_refl _⟩, ⟨by (with_reducible repeat (first | apply bN | apply bD | apply bA)); exact BK212.out⟩, ⟨by (with_reducible repeat (first | apply bN | apply bD | apply bA)); exact BK213.out⟩, ⟨by repeat (first | (with_reducible first | exact HB.out | apply below_alloc | apply pw_below_drewN | apply below_drew1 | refine below_set ?_ GE212.out | refine below_set ?_ GE213.out) | exact HB.out)⟩⟩
   rw [if_neg c11] at H
   have c11b0 : decide (1000 < (l0_2.length : Int)) = false := decide_eq_false c11
   have c11b1 : decide (1000 < l0_2.length) = false := decide_eq_false (by omega)
   clear c11
   (first | rw [c11b0] | (simp only [i64_w, i32_w]; rw [c11b0]) | skip)
   by_cases c14 : (l1_2.length : Int) > 1000
   · rw [if_pos c14] at H
     have c14b0 : decide (1000 < (l1_2.length : Int)) = true := decide_eq_true c14
     have c14b1 : decide (1000 < l1_2.length) = true := decide_eq_true (by omega)
     clear c14
     have H' := qM H
     clear H
     have hnb15 := NB212_213.out
     have hnc15 := NB213_212.out
     have hcz16_0 : w10.cell? ⟨gb212, 0, none⟩ = some (.int .i64 a0_0) := (blk_cell BK212.out 0).trans rfl
     have hcz16_1 : w10.cell? ⟨gb212, 1, none⟩ = some (.int .i64 a0_1) := (blk_cell BK212.out 1).trans rfl
     have hcz16_2 : w10.cell? ⟨gb212, 2, none⟩ = some (.slice A0_2 l0_2.length c0_2) := (blk_cell BK212.out 2).trans rfl
     have hfz16_0 := blk_frozen BK212.out 0
     have hfz16_1 := blk_frozen BK212.out 1
     have hfz16_2 := blk_frozen BK212.out 2
     have hcz17_0 : w10.cell? ⟨gb213, 0, none⟩ = some (.int .i64 a1_0) := (blk_cell BK213.out 0).trans rfl
     have hcz17_1 : w10.cell? ⟨gb213, 1, none⟩ = some (.int .i64 a1_1) := (blk_cell BK213.out 1).trans rfl
     have hcz17_2 : w10.cell? ⟨gb213, 2, none⟩ = some (.slice A1_2 l1_2.length c1_2) := (blk_cell BK213.out 2).trans rfl
     have hfz17_0 := blk_frozen BK213.out 0
     have hfz17_1 := blk_frozen BK213.out 1
     have hfz17_2 := blk_frozen BK213.out 2
     go_wp2
     go_meet
     case rel => exact ⟨_, (true), (by first | rfl | (simp; done) | (simp [*]; done) | (congr 1; simp only [eq_iff_iff, iff_true, ByteArray.size_append] at *; unfold wrap64; omega) | (congr 2; simp only [eq_iff_iff, iff_true, ByteArray.size_append] at *; unfold wrap64; omega)), H', ⟨by first | omega | exact Nat.le_refl _⟩, ⟨by (with_reducible repeat (first | apply bN | apply bD | apply bA)); exact BK212.out⟩, ⟨by (with_reducible repeat (first | apply bN | apply bD | apply bA)); exact BK213.out⟩, ⟨by repeat (first | (with_reducible first | exact HB.out | apply below_alloc | apply pw_below_drewN | apply below_drew1 | refine below_set ?_ GE212.out | refine below_set ?_ GE213.out) | exact HB.out)⟩⟩
   rw [if_neg c14] at H
   have c14b0 : decide (1000 < (l1_2.length : Int)) = false := decide_eq_false c14
   have c14b1 : decide (1000 < l1_2.length) = false := decide_eq_false (by omega)
   clear c14
   have H' := qM H
   clear H
   have hnb18 := NB212_213.out
   have hnc18 := NB213_212.out
   have hcz19_0 : w10.cell? ⟨gb212, 0, none⟩ = some (.int .i64 a0_0) := (blk_cell BK212.out 0).trans rfl
   have hcz19_1 : w10.cell? ⟨gb212, 1, none⟩ = some (.int .i64 a0_1) := (blk_cell BK212.out 1).trans rfl
   have hcz19_2 : w10.cell? ⟨gb212, 2, none⟩ = some (.slice A0_2 l0_2.length c0_2) := (blk_cell BK212.out 2).trans rfl
   have hfz19_0 := blk_frozen BK212.out 0
   have hfz19_1 := blk_frozen BK212.out 1
   have hfz19_2 := blk_frozen BK212.out 2
   have hcz20_0 : w10.cell? ⟨gb213, 0, none⟩ = some (.int .i64 a1_0) := (blk_cell BK213.out 0).trans rfl
   have hcz20_1 : w10.cell? ⟨gb213, 1, none⟩ = some (.int .i64 a1_1) := (blk_cell BK213.out 1).trans rfl
   have hcz20_2 : w10.cell? ⟨gb213, 2, none⟩ = some (.slice A1_2 l1_2.length c1_2) := (blk_cell BK213.out 2).trans rfl
   have hfz20_0 := blk_frozen BK213.out 0
   have hfz20_1 := blk_frozen BK213.out 1
   have hfz20_2 := blk_frozen BK213.out 2
   go_wp2
   go_meet
   case rel => exact ⟨_, (decide ((l3.length : Int) > 1000)), (by first | rfl | (simp; done) | (simp [*]; done) | (congr 1; simp only [eq_iff_iff, iff_true, ByteArray.size_append] at *; unfold wrap64; omega) | (congr 2; simp only [eq_iff_iff, iff_true, ByteArray.size_append] at *; unfold wrap64; omega)), H', ⟨by first | omega | exact Nat.le_refl _⟩, ⟨by (with_reducible repeat (first | apply bN | apply bD | apply bA)); exact BK212.out⟩, ⟨by (with_reducible repeat (first | apply bN | apply bD | apply bA)); exact BK213.out⟩, ⟨by repeat (first | (with_reducible first | exact HB.out | apply below_alloc | apply pw_below_drewN | apply below_drew1 | refine below_set ?_ GE212.out | refine below_set ?_ GE213.out) | exact HB.out)⟩⟩
  case rest =>
   clear HC7
   try clear c1
   try clear p2
   try clear c3
   try clear c5
   try clear c6
   try clear p6
   try clear c8
   try clear c11
   try clear c11b0
   try clear c11b1
   try clear c12
   try clear c14
   try clear c14b0
   try clear c14b1
   try clear c15
   try clear c18
   try clear hcz13_0
   try clear hcz13_1
   try clear hcz13_2
   try clear hcz16_0
   try clear hcz16_1
   try clear hcz16_2
   try clear hcz17_0
   try clear hcz17_1
   try clear hcz17_2
   try clear hcz19_0
   try clear hcz19_1
   try clear hcz19_2
   try clear hcz20_0
   try clear hcz20_1
   try clear hcz20_2
   try clear hfz13_0
   try clear hfz13_1
   try clear hfz13_2
   try clear hfz16_0
   try clear hfz16_1
   try clear hfz16_2
   try clear hfz17_0
   try clear hfz17_1
   try clear hfz17_2
   try clear hfz19_0
   try clear hfz19_1
   try clear hfz19_2
   try clear hfz20_0
   try clear hfz20_1
   try clear hfz20_2
   obtain ⟨kq, x43_6, rfl, HA, HJ6, BK212, BK213, HB⟩ := hcut
   cases kq with
   | zero => exact absurd HA.out (by simp [meterlaw18_SpreadTells.j0])
   | succ kj6 =>
    have H := HA.out
    clear HA
    simp only [meterlaw18_SpreadTells.j0] at H
    by_cases c21 : x43_6 = true
    · subst c21
      have H1 : (some true) = some r := by rw [if_pos rfl] at H; exact H
      clear H
      have H := H1
      clear H1
      obtain rfl := Option.some.inj H
      go_wp2
      go_ret
      exact ⟨by first | rfl | (simp [errW_none, errW_some] <;> rfl) | (simp [*, errW_none, errW_some] <;> rfl), by repeat (first | (with_reducible first | exact HB.out | apply below_alloc | apply pw_below_drewN | apply below_drew1 | refine below_set ?_ GE212.out | refine below_set ?_ GE213.out) | exact HB.out)⟩
    replace c21 := Bool.eq_false_iff.mpr c21
    subst c21
    have H1 : (meterlaw18_SpreadTells.l0 kj6 a2 l3 ([] : List (S41)) 0 a0_0 a0_1 l0_2 a1_0 a1_1 l1_2) = some r := by rw [if_neg (show ¬ (false = true) by decide)] at H; exact H
    clear H
    have H := H1
    clear H1
    have H' := qM H
    clear H
    go_wp2
    go_loopg [9, 10] kj6 (fun kq v9 v10 w' => ∃ (x9_2 : List (S41)) (x10_2 : Int), v10 = .int .i64 x10_2 ∧ Aside0 (meterlaw18_SpreadTells.l0 kq a2 l3 x9_2 x10_2 a0_0 a0_1 l0_2 a1_0 a1_1 l1_2 = some r) ∧ Aside0 (kq ≤ kj6) ∧ Aside0 (Kd.R k41 41 w' w.heap.size (fun _ => True) v9 x9_2) ∧ Aside0 (w'.heap[gb212]? = some (.cells #[.int .i64 a0_0, .int .i64 a0_1, (.slice A0_2 l0_2.length c0_2)] 24 (0, 0))) ∧ Aside0 (w'.heap[gb213]? = some (.cells #[.int .i64 a1_0, .int .i64 a1_1, (.slice A1_2 l1_2.length c1_2)] 24 (0, 0))) ∧ Aside0 (Below w.heap.size w w'))
    case atStart => exact ⟨(([] : List (S41))), (0), (by first | rfl | (simp; done) | (simp [*]; done) | (congr 1; simp only [eq_iff_iff, iff_true, ByteArray.size_append] at *; unfold wrap64; omega) | (congr 2; simp only [eq_iff_iff, iff_true, ByteArray.size_append] at *; unfold wrap64; omega)), H', ⟨Nat.le_refl _⟩, ⟨by first | exact Kd.R_nil _ _ _ _ _ | exact Kd.N_nil _ _ _ _ _ | exact Kd.V_nil _ _ _ _ _ | exact Kd.Q_nil _ _ _ _ _ | exact Kd.S_nil _ _ _ _ _⟩, ⟨by (with_reducible repeat (first | apply bN | apply bD | apply bA)); exact BK212.out⟩, ⟨by (with_reducible repeat (first | apply bN | apply bD | apply bA)); exact BK213.out⟩, ⟨by repeat (first | (with_reducible first | exact HB.out | apply below_alloc | apply pw_below_drewN | apply below_drew1 | refine below_set ?_ GE212.out | refine below_set ?_ GE213.out) | exact HB.out)⟩⟩
    case round =>
     clear H'
     try clear c1
     try clear c2
     try clear p2
     try clear c3
     try clear c5
     try clear c6
     try clear p6
     try clear c8
     try clear c11
     try clear c11b0
     try clear c11b1
     try clear c12
     try clear c14
     try clear c14b0
     try clear c14b1
     try clear c15
     try clear c18
     try clear c21
     try clear hcz13_0
     try clear hcz13_1
     try clear hcz13_2
     try clear hcz16_0
     try clear hcz16_1
     try clear hcz16_2
     try clear hcz17_0
     try clear hcz17_1
     try clear hcz17_2
     try clear hcz19_0
     try clear hcz19_1
     try clear hcz19_2
     try clear hcz20_0
     try clear hcz20_1
     try clear hcz20_2
     try clear hfz13_0
     try clear hfz13_1
     try clear hfz13_2
     try clear hfz16_0
     try clear hfz16_1
     try clear hfz16_2
     try clear hfz17_0
     try clear hfz17_1
     try clear hfz17_2
     try clear hfz19_0
     try clear hfz19_1
     try clear hfz19_2
     try clear hfz20_0
     try clear hfz20_1
     try clear hfz20_2
     try clear p2
     try clear p6
     obtain ⟨x9_2, x10_2, rfl, HA, HK2, HO_9, BK212, BK213, HB⟩ := hrel
     cases gk with
     | zero => exact absurd HA.out (by simp [meterlaw18_SpreadTells.l0])
     | succ k2 =>
      have H := HA.out
      clear HA
      simp only [meterlaw18_SpreadTells.l0] at H
      by_cases c22 : x10_2 < (l3.length : Int)
      · rw [if_pos c22] at H
        have c22b0 : decide (x10_2 < (l3.length : Int)) = true := decide_eq_true c22
        clear c22
        by_cases c23 : 0 ≤ x10_2
        · rw [if_pos c23] at H
          have c23b0 : decide (0 ≤ x10_2) = true := decide_eq_true c23
          clear c23
          by_cases c24 : x9_2.length < 8796093022208
          · rw [if_pos c24] at H
            have LMc24 := qM c24
            clear c24
            obtain ⟨y217, hy217⟩ : ∃ y_ : List (S41), y_ = (x9_2 ++ [(⟨(rd_T39 l3 x10_2).f0, (rd_T39 l3 x10_2).f1⟩ : S41)]) := ⟨_, rfl⟩
            replace H : (meterlaw18_SpreadTells.l0 k2 a2 l3 y217 (wrap64 (x10_2 + 1)) a0_0 a0_1 l0_2 a1_0 a1_1 l1_2) = some r := by first | (rw [hy217]; with_reducible exact H) | (have H2_ := (Option.bind_some _ _).symm.trans H; rw [hy217]; with_reducible exact H2_) | (have H2_ := (Option.bind_some _ _).symm.trans H; with_reducible exact H2_) | with_reducible exact H | (rw [hy217]; exact H) | exact H
            have Ny217 := qM hy217
            clear hy217
            have H' := qM H
            clear H
            try go_wp2
            have n0_ := qM (Kd.R_drew HO_9.out)
            have n1_ := qM (blk_drew BK212.out)
            have n2_ := qM (blk_drew BK213.out)
            have n3_ := qM (below_drew1 HB.out)
            clear HO_9
            clear BK212
            clear BK213
            clear HB
            have HO_9 := n0_
            have BK212 := n1_
            have BK213 := n2_
            have HB := n3_
            clear n0_ n1_ n2_ n3_
            have p215 : 0 ≤ (x10_2 : Int) := of_decide_eq_true (by first | (with_reducible assumption) | assumption)
            have q215 : x10_2 < (l3.length : Int) := of_decide_eq_true (by first | (with_reducible assumption) | assumption)
            obtain ⟨ad215, e215, hx215_0, hx215_1⟩ := at_T39 HR3.out x10_2 p215 q215
            have hw215_1 := hx215_1
            have hw215_0 := hx215_0
            cases e215
            replace hx215_0 := (HB.out.cell (World.block_lt_of_cell? w _ hx215_0)).trans hx215_0
            replace hx215_1 := (HB.out.cell (World.block_lt_of_cell? w _ hx215_1)).trans hx215_1
            replace p215 := eq_true p215
            replace q215 := eq_true q215
            have p216 : 0 ≤ (x10_2 : Int) := of_decide_eq_true (by first | (with_reducible assumption) | assumption)
            have q216 : x10_2 < (l3.length : Int) := of_decide_eq_true (by first | (with_reducible assumption) | assumption)
            obtain ⟨ad216, e216, hx216_0, hx216_1⟩ := at_T39 HR3.out x10_2 p216 q216
            have hw216_1 := hx216_1
            have hw216_0 := hx216_0
            obtain rfl : ad215 = ad216 := (by injection e216)
            replace hx216_0 := (HB.out.cell (World.block_lt_of_cell? w _ hx216_0)).trans hx216_0
            replace hx216_1 := (HB.out.cell (World.block_lt_of_cell? w _ hx216_1)).trans hx216_1
            replace p216 := eq_true p216
            replace q216 := eq_true q216
            refine start_ (n := 15) (S := fun w' => w'.cell? (ad215.add ((x10_2).toNat * 2)) = some (.int .i64 ((rd_T39 l3 x10_2).f0)) ∧ w'.cell? ⟨(ad215.add ((x10_2).toNat * 2)).block, (ad215.add ((x10_2).toNat * 2)).off + 1, none⟩ = some (.int .i64 ((rd_T39 l3 x10_2).f1)) ∧ w'.cell? (ad215.add ((x10_2).toNat * 2)) = some (.int .i64 ((rd_T39 l3 x10_2).f0)) ∧ w'.cell? ⟨(ad215.add ((x10_2).toNat * 2)).block, (ad215.add ((x10_2).toNat * 2)).off + 1, none⟩ = some (.int .i64 ((rd_T39 l3 x10_2).f1))) (ds := []) #[false, false, false, false, false, false, false, false, false, false, false, false, false, false, false] (by kernel_rfl) rfl rfl ⟨((HB.out.cell (World.block_lt_of_cell? w _ hw215_0)).trans hw215_0), ((HB.out.cell (World.block_lt_of_cell? w _ hw215_1)).trans hw215_1), ((HB.out.cell (World.block_lt_of_cell? w _ hw216_0)).trans hw216_0), ((HB.out.cell (World.block_lt_of_cell? w _ hw216_1)).trans hw216_1)⟩ (fun hHeld => ?_); refine with_tabW meterlaw18_SpreadTells.tab9 meterlaw18_SpreadTells.bits9 (fun HT_ HW_ => ?_)
            generalize wr.drew = w25 at HO_9 BK212 BK213 HB hx215_0 hx215_1 hx216_0 hx216_1 hHeld ⊢
            refine pure_ (i := 0) (N := some 50) (v := ?_) (a' := ?_) #[true, false, false, false, false, false, false, false, false, false, false, false, false, false, false] rfl rfl (any_of HT_.out (by kernel_rfl)) (fun _ _ _ h => h) (Or.inl ⟨by rfl, ?_⟩) ?_ ?_
            rotate_left
            · intro w'
              go_simp
              with_reducible rfl
            rotate_left
            · simp only [Act.put, List.setIfInBounds_toArray, List.set_cons_zero, List.set_cons_succ, i64_w, i32_w]
              rfl
            refine pure_ (i := 1) (N := some 51) (v := ?_) (a' := ?_) #[true, true, false, false, false, false, false, false, false, false, false, false, false, false, false] rfl rfl (any_of HT_.out (by kernel_rfl)) (fun _ _ _ h => h) (Or.inl ⟨by rfl, ?_⟩) ?_ ?_
            rotate_left
            · intro w'
              go_simp
              with_reducible rfl
            rotate_left
            · simp only [Act.put, List.setIfInBounds_toArray, List.set_cons_zero, List.set_cons_succ, i64_w, i32_w]
              rfl
            refine pure_ (i := 2) (N := some 52) (v := ?_) (a' := ?_) #[true, true, true, false, false, false, false, false, false, false, false, false, false, false, false] rfl rfl (any_of HT_.out (by kernel_rfl)) (fun _ _ _ h => h) (Or.inl ⟨by rfl, ?_⟩) ?_ ?_
            rotate_left
            · intro w'
              go_simp
              with_reducible rfl
            rotate_left
            · simp only [Act.put, List.setIfInBounds_toArray, List.set_cons_zero, List.set_cons_succ, i64_w, i32_w]
              rfl
            refine pure_ (i := 3) (N := some 53) (v := ?_) (a' := ?_) #[true, true, true, true, false, false, false, false, false, false, false, false, false, false, false] rfl rfl (any_of HT_.out (by kernel_rfl)) (fun _ _ _ h => h) (Or.inl ⟨by rfl, ?_⟩) ?_ ?_
            rotate_left
            · intro w'
              go_simp
              with_reducible rfl
            rotate_left
            · simp only [Act.put, List.setIfInBounds_toArray, List.set_cons_zero, List.set_cons_succ, i64_w, i32_w]
              rfl
            refine pure_ (i := 4) (N := some 54) (v := ?_) (a' := ?_) #[true, true, true, true, true, false, false, false, false, false, false, false, false, false, false] rfl rfl (any_of HT_.out (by kernel_rfl)) (fun _ _ _ h => h) (Or.inl ⟨by rfl, ?_⟩) ?_ ?_
            rotate_left
            · intro w'
              go_simp
              with_reducible rfl
            rotate_left
            · simp only [Act.put, List.setIfInBounds_toArray, List.set_cons_zero, List.set_cons_succ, i64_w, i32_w]
              rfl
            refine pure_ (i := 6) (N := some 56) (v := ?_) (a' := ?_) #[true, true, true, true, true, false, true, false, false, false, false, false, false, false, false] rfl rfl (any_of HT_.out (by kernel_rfl)) (fun _ _ _ h => h) (Or.inl ⟨by rfl, ?_⟩) ?_ ?_
            rotate_left
            · intro w'
              go_simp
              with_reducible rfl
            rotate_left
            · simp only [Act.put, List.setIfInBounds_toArray, List.set_cons_zero, List.set_cons_succ, i64_w, i32_w]
              rfl
            refine pure_ (i := 7) (N := some 57) (v := ?_) (a' := ?_) #[true, true, true, true, true, false, true, true, false, false, false, false, false, false, false] rfl rfl (any_of HT_.out (by kernel_rfl)) (fun _ _ _ h => h) (Or.inl ⟨by rfl, ?_⟩) ?_ ?_
            rotate_left
            · intro w'
              go_simp
              with_reducible rfl
            rotate_left
            · simp only [Act.put, List.setIfInBounds_toArray, List.set_cons_zero, List.set_cons_succ, i64_w, i32_w]
              rfl
            refine pure_ (i := 8) (N := some 58) (v := ?_) (a' := ?_) #[true, true, true, true, true, false, true, true, true, false, false, false, false, false, false] rfl rfl (any_of HT_.out (by kernel_rfl)) (fun _ _ _ h => h) (Or.inl ⟨by rfl, ?_⟩) ?_ ?_
            rotate_left
            · intro w'
              go_simp
              with_reducible rfl
            rotate_left
            · simp only [Act.put, List.setIfInBounds_toArray, List.set_cons_zero, List.set_cons_succ, i64_w, i32_w]
              rfl
            refine pure_ (i := 9) (N := some 59) (v := ?_) (a' := ?_) #[true, true, true, true, true, false, true, true, true, true, false, false, false, false, false] rfl rfl (any_of HT_.out (by kernel_rfl)) (fun _ _ _ h => h) (Or.inl ⟨by rfl, ?_⟩) ?_ ?_
            rotate_left
            · intro w'
              go_simp
              with_reducible rfl
            rotate_left
            · simp only [Act.put, List.setIfInBounds_toArray, List.set_cons_zero, List.set_cons_succ, i64_w, i32_w]
              rfl
            refine take_ (i := 5) (N := some 55) (v := ?_) (a' := ?_) #[true, true, true, true, true, true, true, true, true, true, false, false, false, false, false] rfl rfl (take_ofW HT_.out HW_.out (by kernel_rfl)) (fun _ _ _ h => h) (Or.inl ⟨by rfl, ?_⟩) hHeld ?_ ?_
            rotate_left
            · rintro w' ⟨s0, s1, s2, s3⟩
              go_simp
              with_reducible rfl
            rotate_left
            · simp only [Act.put, List.setIfInBounds_toArray, List.set_cons_zero, List.set_cons_succ, i64_w, i32_w]
              rfl
            refine take_ (i := 10) (N := some 60) (v := ?_) (a' := ?_) #[true, true, true, true, true, true, true, true, true, true, true, false, false, false, false] rfl rfl (take_ofW HT_.out HW_.out (by kernel_rfl)) (fun _ _ _ h => h) (Or.inl ⟨by rfl, ?_⟩) hHeld ?_ ?_
            rotate_left
            · rintro w' ⟨s0, s1, s2, s3⟩
              go_simp
              with_reducible rfl
            rotate_left
            · simp only [Act.put, List.setIfInBounds_toArray, List.set_cons_zero, List.set_cons_succ, i64_w, i32_w]
              rfl
            refine pure_ (i := 11) (N := some 61) (v := ?_) (a' := ?_) #[true, true, true, true, true, true, true, true, true, true, true, true, false, false, false] rfl rfl (any_of HT_.out (by kernel_rfl)) (fun _ _ _ h => h) (Or.inl ⟨by rfl, ?_⟩) ?_ ?_
            rotate_left
            · intro w'
              go_simp
              with_reducible rfl
            rotate_left
            · simp only [Act.put, List.setIfInBounds_toArray, List.set_cons_zero, List.set_cons_succ, i64_w, i32_w]
              rfl
            refine one_ (i := 12) (N := some 62) #[true, true, true, true, true, true, true, true, true, true, true, true, true, false, false] rfl rfl (one_of HT_.out (by kernel_rfl)) (by decide) (fun K hK => ?_)
            refine value_ (w1 := ?_) (v := ?_) (by rfl) rfl ?_ ?_
            rotate_left 2
            · go_simp
              constructor
              · rfl
              rfl
            refine hK.out _ _ ⟨(World.cell?_alloc_lt _ _ _ (World.block_lt_of_cell? _ _ (((HB.out.cell (World.block_lt_of_cell? w _ hw215_0)).trans hw215_0)))).trans (((HB.out.cell (World.block_lt_of_cell? w _ hw215_0)).trans hw215_0)), (World.cell?_alloc_lt _ _ _ (World.block_lt_of_cell? _ _ (((HB.out.cell (World.block_lt_of_cell? w _ hw215_1)).trans hw215_1)))).trans (((HB.out.cell (World.block_lt_of_cell? w _ hw215_1)).trans hw215_1)), (World.cell?_alloc_lt _ _ _ (World.block_lt_of_cell? _ _ (((HB.out.cell (World.block_lt_of_cell? w _ hw216_0)).trans hw216_0)))).trans (((HB.out.cell (World.block_lt_of_cell? w _ hw216_0)).trans hw216_0)), (World.cell?_alloc_lt _ _ _ (World.block_lt_of_cell? _ _ (((HB.out.cell (World.block_lt_of_cell? w _ hw216_1)).trans hw216_1)))).trans (((HB.out.cell (World.block_lt_of_cell? w _ hw216_1)).trans hw216_1))⟩ (fun hHeld => ?_)
            clear hK K
            refine norm_ (a' := ?_) ?_ ?_
            rotate_left
            · show Act.put _ (some 62) _ = _
              simp only [Act.put, List.setIfInBounds_toArray, List.set_cons_zero, List.set_cons_succ, i64_w, i32_w]
              rfl
            refine one_ (i := 13) (N := some 63) #[true, true, true, true, true, true, true, true, true, true, true, true, true, true, false] rfl rfl (one_of HT_.out (by kernel_rfl)) (by decide) (fun K hK => ?_)
            refine Kd.R_append_step k41 (w0 := w) w.heap.size (by rfl) (.tmp 50) (.tmp 62) 42 41 (.agg #[(.int .i64 0), (.int .i64 0)]) 16 rfl Try.underlying42 info41 rfl (by decide) (by omega) u9 x9_2 (⟨(rd_T39 l3 x10_2).f0, (rd_T39 l3 x10_2).f1⟩ : S41) [.int .i64 ((rd_T39 l3 x10_2).f0), .int .i64 ((rd_T39 l3 x10_2).f1)] (fun _ => True) (fun _ => False) rfl rfl ?aP (fun _ hk => hk.elim) ?aF ?aO ?aB ?aS ?aL ?_
            (case aP => exact k41_mkM _ _ _ (⟨(rd_T39 l3 x10_2).f0, (rd_T39 l3 x10_2).f1⟩ : S41))
            (case aB => exact (by repeat (first | (with_reducible first | exact HB.out | apply below_alloc | apply pw_below_drewN | apply below_drew1 | refine below_set ?_ GE212.out | refine below_set ?_ GE213.out) | exact HB.out)))
            (case aF => exact (fun _ _ => trivial))
            (case aO => exact (by (with_reducible repeat (first | apply Kd.R_alloc | apply Kd.R_drewN | apply Kd.R_drew)); exact HO_9.out))
            (case aS => exact (below_size (by repeat (first | (with_reducible first | exact HB.out | apply below_alloc | apply pw_below_drewN | apply below_drew1 | refine below_set ?_ GE212.out | refine below_set ?_ GE213.out) | exact HB.out))))
            (case aL => have := LMc24.out; omega)
            intro v218 w26 ho hb hg hat
            rw [← Ny217.out] at ho
            have n0_ := qM (blk_grown (g := gb212) (o := .cells #[.int .i64 a0_0, .int .i64 a0_1, .slice A0_2 l0_2.length c0_2] 24 (0, 0)) (by (with_reducible repeat (first | apply bN | apply bD | apply bA)); exact BK212.out) hg (Kd.R_ne HO_9.out BK212.out (by decide)))
            have n1_ := qM (blk_grown (g := gb213) (o := .cells #[.int .i64 a1_0, .int .i64 a1_1, .slice A1_2 l1_2.length c1_2] 24 (0, 0)) (by (with_reducible repeat (first | apply bN | apply bD | apply bA)); exact BK213.out) hg (Kd.R_ne HO_9.out BK213.out (by decide)))
            have n2_ := qM (hb)
            have n3_ := qM (ho)
            clear BK212
            clear BK213
            clear HB
            clear HO_9
            have BK212 := n0_
            have BK213 := n1_
            have HB := n2_
            have HO219 := n3_
            clear n0_ n1_ n2_ n3_
            clear ho hb hg hat
            refine hK.out _ _ ⟨((HB.out.cell (World.block_lt_of_cell? w _ hw215_0)).trans hw215_0), ((HB.out.cell (World.block_lt_of_cell? w _ hw215_1)).trans hw215_1), ((HB.out.cell (World.block_lt_of_cell? w _ hw216_0)).trans hw216_0), ((HB.out.cell (World.block_lt_of_cell? w _ hw216_1)).trans hw216_1)⟩ (fun hHeld => ?_)
            clear hK K
            refine norm_ (a' := ?_) ?_ ?_
            rotate_left
            · show Act.put _ (some 63) _ = _
              simp only [Act.put, List.setIfInBounds_toArray, List.set_cons_zero, List.set_cons_succ, i64_w, i32_w]
              rfl
            refine pure_ (i := 14) (N := some 9) (v := ?_) (a' := ?_) #[true, true, true, true, true, true, true, true, true, true, true, true, true, true, true] rfl rfl (any_of HT_.out (by kernel_rfl)) (fun _ _ _ h => h) (Or.inl ⟨by rfl, ?_⟩) ?_ ?_
            rotate_left
            · intro w'
              go_simp
              with_reducible rfl
            rotate_left
            · simp only [Act.put, List.setIfInBounds_toArray, List.set_cons_zero, List.set_cons_succ, i64_w, i32_w]
              rfl
            refine done_ (done_of HT_.out (by kernel_rfl)) ?_
            try go_wp2
            go_roundg k2
            case measure => have := HJ6.out; have := HK2.out; omega
            case rel => exact ⟨(y217), (wrap64 (x10_2 + 1)), (by first | rfl | (simp; done) | (simp [*]; done) | (congr 1; simp only [eq_iff_iff, iff_true, ByteArray.size_append] at *; unfold wrap64; omega) | (congr 2; simp only [eq_iff_iff, iff_true, ByteArray.size_append] at *; unfold wrap64; omega)), H', ⟨by have := HJ6.out; have := HK2.out; omega⟩, ⟨by (with_reducible repeat (first | apply Kd.R_alloc | apply Kd.R_drewN | apply Kd.R_drew)); exact HO219.out⟩, ⟨by (with_reducible repeat (first | apply bN | apply bD | apply bA)); exact BK212.out⟩, ⟨by (with_reducible repeat (first | apply bN | apply bD | apply bA)); exact BK213.out⟩, ⟨by repeat (first | (with_reducible first | exact HB.out | apply below_alloc | apply pw_below_drewN | apply below_drew1 | refine below_set ?_ GE212.out | refine below_set ?_ GE213.out) | exact HB.out)⟩⟩
          rw [if_neg c24] at H
          exact absurd H (by simp)
        rw [if_neg c23] at H
        exact absurd H (by simp)
      rw [if_neg c22] at H
      have c22b0 : decide (x10_2 < (l3.length : Int)) = false := decide_eq_false c22
      clear c22
      replace H := Option.bind_eq_some_iff.mp H
      obtain ⟨⟨t220, t221, t222⟩, A270, H⟩ := H
      replace H : ((meterlaw18_copied.f a1_0 a1_1 l1_2).bind fun bt225 => ((spread_Keep.f t220 t221 t222 bt225.1 bt225.2.1 bt225.2.2).bind fun bt232 => ((meterref18_Keep.f k2 a0_0 a0_1 l0_2 a1_0 a1_1 l1_2).bind fun bt239 => ((spread_Diff.f k2 t220 t221 t222 bt225.1 bt225.2.1 bt225.2.2).bind fun bt246 => ((meterref18_Diff.f k2 a0_0 a0_1 l0_2 a1_0 a1_1 l1_2).bind fun bt250 => ((spread_Patch.f t220 t221 t222 a2 l3).bind fun bt254 => ((meterref18_Patch.f k2 a0_0 a0_1 l0_2 a2 x9_2).bind fun bt261 => (if (bt232.2.2.2 != bt239.2.2.2) = true then (meterlaw18_SpreadTells.j2 k2 true a0_0 a0_1 l0_2 a1_0 a1_1 l1_2 t220 t221 t222 bt225.1 bt225.2.1 bt225.2.2 bt232.1 bt232.2.1 bt232.2.2.1 bt254.1 bt254.2.1 bt254.2.2.1) else ((meterref17_Same.f k2 bt232.1 bt232.2.1 bt232.2.2.1 bt239.1 bt239.2.1 bt239.2.2.1).bind fun t268 => (if t268 = true then (if (bt246.2 != bt250.2) = true then (meterlaw18_SpreadTells.j2 k2 true a0_0 a0_1 l0_2 a1_0 a1_1 l1_2 t220 t221 t222 bt225.1 bt225.2.1 bt225.2.2 bt232.1 bt232.2.1 bt232.2.2.1 bt254.1 bt254.2.1 bt254.2.2.1) else ((meterlaw18_same.f k2 bt246.1 bt250.1).bind fun t269 => (if t269 = true then (if bt254.2.2.2 = bt261.2.2.2 then ((meterref17_Same.f k2 bt254.1 bt254.2.1 bt254.2.2.1 bt261.1 bt261.2.1 bt261.2.2.1).bind fun t270 => (meterlaw18_SpreadTells.j2 k2 (!t270) a0_0 a0_1 l0_2 a1_0 a1_1 l1_2 t220 t221 t222 bt225.1 bt225.2.1 bt225.2.2 bt232.1 bt232.2.1 bt232.2.2.1 bt254.1 bt254.2.1 bt254.2.2.1)) else (meterlaw18_SpreadTells.j2 k2 true a0_0 a0_1 l0_2 a1_0 a1_1 l1_2 t220 t221 t222 bt225.1 bt225.2.1 bt225.2.2 bt232.1 bt232.2.1 bt232.2.2.1 bt254.1 bt254.2.1 bt254.2.2.1)) else (meterlaw18_SpreadTells.j2 k2 true a0_0 a0_1 l0_2 a1_0 a1_1 l1_2 t220 t221 t222 bt225.1 bt225.2.1 bt225.2.2 bt232.1 bt232.2.1 bt232.2.2.1 bt254.1 bt254.2.1 bt254.2.2.1)))) else (meterlaw18_SpreadTells.j2 k2 true a0_0 a0_1 l0_2 a1_0 a1_1 l1_2 t220 t221 t222 bt225.1 bt225.2.1 bt225.2.2 bt232.1 bt232.2.1 bt232.2.2.1 bt254.1 bt254.2.1 bt254.2.2.1))))))))))) = some r := H
      have A27 := qM A270
      clear A270
      replace H := Option.bind_eq_some_iff.mp H
      obtain ⟨⟨t225, t226, t227⟩, A280, H⟩ := H
      replace H : ((spread_Keep.f t220 t221 t222 t225 t226 t227).bind fun bt232 => ((meterref18_Keep.f k2 a0_0 a0_1 l0_2 a1_0 a1_1 l1_2).bind fun bt239 => ((spread_Diff.f k2 t220 t221 t222 t225 t226 t227).bind fun bt246 => ((meterref18_Diff.f k2 a0_0 a0_1 l0_2 a1_0 a1_1 l1_2).bind fun bt250 => ((spread_Patch.f t220 t221 t222 a2 l3).bind fun bt254 => ((meterref18_Patch.f k2 a0_0 a0_1 l0_2 a2 x9_2).bind fun bt261 => (if (bt232.2.2.2 != bt239.2.2.2) = true then (meterlaw18_SpreadTells.j2 k2 true a0_0 a0_1 l0_2 a1_0 a1_1 l1_2 t220 t221 t222 t225 t226 t227 bt232.1 bt232.2.1 bt232.2.2.1 bt254.1 bt254.2.1 bt254.2.2.1) else ((meterref17_Same.f k2 bt232.1 bt232.2.1 bt232.2.2.1 bt239.1 bt239.2.1 bt239.2.2.1).bind fun t268 => (if t268 = true then (if (bt246.2 != bt250.2) = true then (meterlaw18_SpreadTells.j2 k2 true a0_0 a0_1 l0_2 a1_0 a1_1 l1_2 t220 t221 t222 t225 t226 t227 bt232.1 bt232.2.1 bt232.2.2.1 bt254.1 bt254.2.1 bt254.2.2.1) else ((meterlaw18_same.f k2 bt246.1 bt250.1).bind fun t269 => (if t269 = true then (if bt254.2.2.2 = bt261.2.2.2 then ((meterref17_Same.f k2 bt254.1 bt254.2.1 bt254.2.2.1 bt261.1 bt261.2.1 bt261.2.2.1).bind fun t270 => (meterlaw18_SpreadTells.j2 k2 (!t270) a0_0 a0_1 l0_2 a1_0 a1_1 l1_2 t220 t221 t222 t225 t226 t227 bt232.1 bt232.2.1 bt232.2.2.1 bt254.1 bt254.2.1 bt254.2.2.1)) else (meterlaw18_SpreadTells.j2 k2 true a0_0 a0_1 l0_2 a1_0 a1_1 l1_2 t220 t221 t222 t225 t226 t227 bt232.1 bt232.2.1 bt232.2.2.1 bt254.1 bt254.2.1 bt254.2.2.1)) else (meterlaw18_SpreadTells.j2 k2 true a0_0 a0_1 l0_2 a1_0 a1_1 l1_2 t220 t221 t222 t225 t226 t227 bt232.1 bt232.2.1 bt232.2.2.1 bt254.1 bt254.2.1 bt254.2.2.1)))) else (meterlaw18_SpreadTells.j2 k2 true a0_0 a0_1 l0_2 a1_0 a1_1 l1_2 t220 t221 t222 t225 t226 t227 bt232.1 bt232.2.1 bt232.2.2.1 bt254.1 bt254.2.1 bt254.2.2.1)))))))))) = some r := H
      have A28 := qM A280
      clear A280
      replace H := Option.bind_eq_some_iff.mp H
      obtain ⟨⟨t232, t233, t234, t237⟩, A290, H⟩ := H
      replace H : ((meterref18_Keep.f k2 a0_0 a0_1 l0_2 a1_0 a1_1 l1_2).bind fun bt239 => ((spread_Diff.f k2 t220 t221 t222 t225 t226 t227).bind fun bt246 => ((meterref18_Diff.f k2 a0_0 a0_1 l0_2 a1_0 a1_1 l1_2).bind fun bt250 => ((spread_Patch.f t220 t221 t222 a2 l3).bind fun bt254 => ((meterref18_Patch.f k2 a0_0 a0_1 l0_2 a2 x9_2).bind fun bt261 => (if (t237 != bt239.2.2.2) = true then (meterlaw18_SpreadTells.j2 k2 true a0_0 a0_1 l0_2 a1_0 a1_1 l1_2 t220 t221 t222 t225 t226 t227 t232 t233 t234 bt254.1 bt254.2.1 bt254.2.2.1) else ((meterref17_Same.f k2 t232 t233 t234 bt239.1 bt239.2.1 bt239.2.2.1).bind fun t268 => (if t268 = true then (if (bt246.2 != bt250.2) = true then (meterlaw18_SpreadTells.j2 k2 true a0_0 a0_1 l0_2 a1_0 a1_1 l1_2 t220 t221 t222 t225 t226 t227 t232 t233 t234 bt254.1 bt254.2.1 bt254.2.2.1) else ((meterlaw18_same.f k2 bt246.1 bt250.1).bind fun t269 => (if t269 = true then (if bt254.2.2.2 = bt261.2.2.2 then ((meterref17_Same.f k2 bt254.1 bt254.2.1 bt254.2.2.1 bt261.1 bt261.2.1 bt261.2.2.1).bind fun t270 => (meterlaw18_SpreadTells.j2 k2 (!t270) a0_0 a0_1 l0_2 a1_0 a1_1 l1_2 t220 t221 t222 t225 t226 t227 t232 t233 t234 bt254.1 bt254.2.1 bt254.2.2.1)) else (meterlaw18_SpreadTells.j2 k2 true a0_0 a0_1 l0_2 a1_0 a1_1 l1_2 t220 t221 t222 t225 t226 t227 t232 t233 t234 bt254.1 bt254.2.1 bt254.2.2.1)) else (meterlaw18_SpreadTells.j2 k2 true a0_0 a0_1 l0_2 a1_0 a1_1 l1_2 t220 t221 t222 t225 t226 t227 t232 t233 t234 bt254.1 bt254.2.1 bt254.2.2.1)))) else (meterlaw18_SpreadTells.j2 k2 true a0_0 a0_1 l0_2 a1_0 a1_1 l1_2 t220 t221 t222 t225 t226 t227 t232 t233 t234 bt254.1 bt254.2.1 bt254.2.2.1))))))))) = some r := H
      have A29 := qM A290
      clear A290
      replace H := Option.bind_eq_some_iff.mp H
      obtain ⟨⟨t239, t240, t241, t244⟩, A300, H⟩ := H
      replace H : ((spread_Diff.f k2 t220 t221 t222 t225 t226 t227).bind fun bt246 => ((meterref18_Diff.f k2 a0_0 a0_1 l0_2 a1_0 a1_1 l1_2).bind fun bt250 => ((spread_Patch.f t220 t221 t222 a2 l3).bind fun bt254 => ((meterref18_Patch.f k2 a0_0 a0_1 l0_2 a2 x9_2).bind fun bt261 => (if (t237 != t244) = true then (meterlaw18_SpreadTells.j2 k2 true a0_0 a0_1 l0_2 a1_0 a1_1 l1_2 t220 t221 t222 t225 t226 t227 t232 t233 t234 bt254.1 bt254.2.1 bt254.2.2.1) else ((meterref17_Same.f k2 t232 t233 t234 t239 t240 t241).bind fun t268 => (if t268 = true then (if (bt246.2 != bt250.2) = true then (meterlaw18_SpreadTells.j2 k2 true a0_0 a0_1 l0_2 a1_0 a1_1 l1_2 t220 t221 t222 t225 t226 t227 t232 t233 t234 bt254.1 bt254.2.1 bt254.2.2.1) else ((meterlaw18_same.f k2 bt246.1 bt250.1).bind fun t269 => (if t269 = true then (if bt254.2.2.2 = bt261.2.2.2 then ((meterref17_Same.f k2 bt254.1 bt254.2.1 bt254.2.2.1 bt261.1 bt261.2.1 bt261.2.2.1).bind fun t270 => (meterlaw18_SpreadTells.j2 k2 (!t270) a0_0 a0_1 l0_2 a1_0 a1_1 l1_2 t220 t221 t222 t225 t226 t227 t232 t233 t234 bt254.1 bt254.2.1 bt254.2.2.1)) else (meterlaw18_SpreadTells.j2 k2 true a0_0 a0_1 l0_2 a1_0 a1_1 l1_2 t220 t221 t222 t225 t226 t227 t232 t233 t234 bt254.1 bt254.2.1 bt254.2.2.1)) else (meterlaw18_SpreadTells.j2 k2 true a0_0 a0_1 l0_2 a1_0 a1_1 l1_2 t220 t221 t222 t225 t226 t227 t232 t233 t234 bt254.1 bt254.2.1 bt254.2.2.1)))) else (meterlaw18_SpreadTells.j2 k2 true a0_0 a0_1 l0_2 a1_0 a1_1 l1_2 t220 t221 t222 t225 t226 t227 t232 t233 t234 bt254.1 bt254.2.1 bt254.2.2.1)))))))) = some r := H
      have A30 := qM A300
      clear A300
      replace H := Option.bind_eq_some_iff.mp H
      obtain ⟨⟨t246, t249⟩, A310, H⟩ := H
      replace H : ((meterref18_Diff.f k2 a0_0 a0_1 l0_2 a1_0 a1_1 l1_2).bind fun bt250 => ((spread_Patch.f t220 t221 t222 a2 l3).bind fun bt254 => ((meterref18_Patch.f k2 a0_0 a0_1 l0_2 a2 x9_2).bind fun bt261 => (if (t237 != t244) = true then (meterlaw18_SpreadTells.j2 k2 true a0_0 a0_1 l0_2 a1_0 a1_1 l1_2 t220 t221 t222 t225 t226 t227 t232 t233 t234 bt254.1 bt254.2.1 bt254.2.2.1) else ((meterref17_Same.f k2 t232 t233 t234 t239 t240 t241).bind fun t268 => (if t268 = true then (if (t249 != bt250.2) = true then (meterlaw18_SpreadTells.j2 k2 true a0_0 a0_1 l0_2 a1_0 a1_1 l1_2 t220 t221 t222 t225 t226 t227 t232 t233 t234 bt254.1 bt254.2.1 bt254.2.2.1) else ((meterlaw18_same.f k2 t246 bt250.1).bind fun t269 => (if t269 = true then (if bt254.2.2.2 = bt261.2.2.2 then ((meterref17_Same.f k2 bt254.1 bt254.2.1 bt254.2.2.1 bt261.1 bt261.2.1 bt261.2.2.1).bind fun t270 => (meterlaw18_SpreadTells.j2 k2 (!t270) a0_0 a0_1 l0_2 a1_0 a1_1 l1_2 t220 t221 t222 t225 t226 t227 t232 t233 t234 bt254.1 bt254.2.1 bt254.2.2.1)) else (meterlaw18_SpreadTells.j2 k2 true a0_0 a0_1 l0_2 a1_0 a1_1 l1_2 t220 t221 t222 t225 t226 t227 t232 t233 t234 bt254.1 bt254.2.1 bt254.2.2.1)) else (meterlaw18_SpreadTells.j2 k2 true a0_0 a0_1 l0_2 a1_0 a1_1 l1_2 t220 t221 t222 t225 t226 t227 t232 t233 t234 bt254.1 bt254.2.1 bt254.2.2.1)))) else (meterlaw18_SpreadTells.j2 k2 true a0_0 a0_1 l0_2 a1_0 a1_1 l1_2 t220 t221 t222 t225 t226 t227 t232 t233 t234 bt254.1 bt254.2.1 bt254.2.2.1))))))) = some r := H
      have A31 := qM A310
      clear A310
      replace H := Option.bind_eq_some_iff.mp H
      obtain ⟨⟨t250, t253⟩, A320, H⟩ := H
      replace H : ((spread_Patch.f t220 t221 t222 a2 l3).bind fun bt254 => ((meterref18_Patch.f k2 a0_0 a0_1 l0_2 a2 x9_2).bind fun bt261 => (if (t237 != t244) = true then (meterlaw18_SpreadTells.j2 k2 true a0_0 a0_1 l0_2 a1_0 a1_1 l1_2 t220 t221 t222 t225 t226 t227 t232 t233 t234 bt254.1 bt254.2.1 bt254.2.2.1) else ((meterref17_Same.f k2 t232 t233 t234 t239 t240 t241).bind fun t268 => (if t268 = true then (if (t249 != t253) = true then (meterlaw18_SpreadTells.j2 k2 true a0_0 a0_1 l0_2 a1_0 a1_1 l1_2 t220 t221 t222 t225 t226 t227 t232 t233 t234 bt254.1 bt254.2.1 bt254.2.2.1) else ((meterlaw18_same.f k2 t246 t250).bind fun t269 => (if t269 = true then (if bt254.2.2.2 = bt261.2.2.2 then ((meterref17_Same.f k2 bt254.1 bt254.2.1 bt254.2.2.1 bt261.1 bt261.2.1 bt261.2.2.1).bind fun t270 => (meterlaw18_SpreadTells.j2 k2 (!t270) a0_0 a0_1 l0_2 a1_0 a1_1 l1_2 t220 t221 t222 t225 t226 t227 t232 t233 t234 bt254.1 bt254.2.1 bt254.2.2.1)) else (meterlaw18_SpreadTells.j2 k2 true a0_0 a0_1 l0_2 a1_0 a1_1 l1_2 t220 t221 t222 t225 t226 t227 t232 t233 t234 bt254.1 bt254.2.1 bt254.2.2.1)) else (meterlaw18_SpreadTells.j2 k2 true a0_0 a0_1 l0_2 a1_0 a1_1 l1_2 t220 t221 t222 t225 t226 t227 t232 t233 t234 bt254.1 bt254.2.1 bt254.2.2.1)))) else (meterlaw18_SpreadTells.j2 k2 true a0_0 a0_1 l0_2 a1_0 a1_1 l1_2 t220 t221 t222 t225 t226 t227 t232 t233 t234 bt254.1 bt254.2.1 bt254.2.2.1)))))) = some r := H
      have A32 := qM A320
      clear A320
      replace H := Option.bind_eq_some_iff.mp H
      obtain ⟨⟨t254, t255, t256, t259⟩, A330, H⟩ := H
      replace H : ((meterref18_Patch.f k2 a0_0 a0_1 l0_2 a2 x9_2).bind fun bt261 => (if (t237 != t244) = true then (meterlaw18_SpreadTells.j2 k2 true a0_0 a0_1 l0_2 a1_0 a1_1 l1_2 t220 t221 t222 t225 t226 t227 t232 t233 t234 t254 t255 t256) else ((meterref17_Same.f k2 t232 t233 t234 t239 t240 t241).bind fun t268 => (if t268 = true then (if (t249 != t253) = true then (meterlaw18_SpreadTells.j2 k2 true a0_0 a0_1 l0_2 a1_0 a1_1 l1_2 t220 t221 t222 t225 t226 t227 t232 t233 t234 t254 t255 t256) else ((meterlaw18_same.f k2 t246 t250).bind fun t269 => (if t269 = true then (if t259 = bt261.2.2.2 then ((meterref17_Same.f k2 t254 t255 t256 bt261.1 bt261.2.1 bt261.2.2.1).bind fun t270 => (meterlaw18_SpreadTells.j2 k2 (!t270) a0_0 a0_1 l0_2 a1_0 a1_1 l1_2 t220 t221 t222 t225 t226 t227 t232 t233 t234 t254 t255 t256)) else (meterlaw18_SpreadTells.j2 k2 true a0_0 a0_1 l0_2 a1_0 a1_1 l1_2 t220 t221 t222 t225 t226 t227 t232 t233 t234 t254 t255 t256)) else (meterlaw18_SpreadTells.j2 k2 true a0_0 a0_1 l0_2 a1_0 a1_1 l1_2 t220 t221 t222 t225 t226 t227 t232 t233 t234 t254 t255 t256)))) else (meterlaw18_SpreadTells.j2 k2 true a0_0 a0_1 l0_2 a1_0 a1_1 l1_2 t220 t221 t222 t225 t226 t227 t232 t233 t234 t254 t255 t256))))) = some r := H
      have A33 := qM A330
      clear A330
      replace H := Option.bind_eq_some_iff.mp H
      obtain ⟨⟨t261, t262, t263, t266⟩, A340, H⟩ := H
      replace H : (if (t237 != t244) = true then (meterlaw18_SpreadTells.j2 k2 true a0_0 a0_1 l0_2 a1_0 a1_1 l1_2 t220 t221 t222 t225 t226 t227 t232 t233 t234 t254 t255 t256) else ((meterref17_Same.f k2 t232 t233 t234 t239 t240 t241).bind fun t268 => (if t268 = true then (if (t249 != t253) = true then (meterlaw18_SpreadTells.j2 k2 true a0_0 a0_1 l0_2 a1_0 a1_1 l1_2 t220 t221 t222 t225 t226 t227 t232 t233 t234 t254 t255 t256) else ((meterlaw18_same.f k2 t246 t250).bind fun t269 => (if t269 = true then (if t259 = t266 then ((meterref17_Same.f k2 t254 t255 t256 t261 t262 t263).bind fun t270 => (meterlaw18_SpreadTells.j2 k2 (!t270) a0_0 a0_1 l0_2 a1_0 a1_1 l1_2 t220 t221 t222 t225 t226 t227 t232 t233 t234 t254 t255 t256)) else (meterlaw18_SpreadTells.j2 k2 true a0_0 a0_1 l0_2 a1_0 a1_1 l1_2 t220 t221 t222 t225 t226 t227 t232 t233 t234 t254 t255 t256)) else (meterlaw18_SpreadTells.j2 k2 true a0_0 a0_1 l0_2 a1_0 a1_1 l1_2 t220 t221 t222 t225 t226 t227 t232 t233 t234 t254 t255 t256)))) else (meterlaw18_SpreadTells.j2 k2 true a0_0 a0_1 l0_2 a1_0 a1_1 l1_2 t220 t221 t222 t225 t226 t227 t232 t233 t234 t254 t255 t256)))) = some r := H
      have A34 := qM A340
      clear A340
      have HC35 := qM H
      clear H
      try go_wp2
      have n0_ := qM (Kd.R_drew HO_9.out)
      have n1_ := qM (blk_drew BK212.out)
      have n2_ := qM (blk_drew BK213.out)
      have n3_ := qM (below_drew1 HB.out)
      clear HO_9
      clear BK212
      clear BK213
      clear HB
      have HO_9 := n0_
      have BK212 := n1_
      have BK213 := n2_
      have HB := n3_
      clear n0_ n1_ n2_ n3_
      refine start_ (n := 8) (S := fun w' => w'.cell? ⟨gb212, 0, none⟩ = some (.int .i64 a0_0) ∧ w'.cell? ⟨gb212, 1, none⟩ = some (.int .i64 a0_1) ∧ w'.cell? ⟨gb212, 2, none⟩ = some (.slice A0_2 l0_2.length c0_2) ∧ w'.cell? ⟨gb213, 0, none⟩ = some (.int .i64 a1_0) ∧ w'.cell? ⟨gb213, 1, none⟩ = some (.int .i64 a1_1) ∧ w'.cell? ⟨gb213, 2, none⟩ = some (.slice A1_2 l1_2.length c1_2)) (ds := []) #[false, false, false, false, false, false, false, false] (by kernel_rfl) rfl rfl ⟨(blk_cell BK212.out 0).trans rfl, (blk_cell BK212.out 1).trans rfl, (blk_cell BK212.out 2).trans rfl, (blk_cell BK213.out 0).trans rfl, (blk_cell BK213.out 1).trans rfl, (blk_cell BK213.out 2).trans rfl⟩ (fun hHeld => ?_); refine with_tabW meterlaw18_SpreadTells.tab10 meterlaw18_SpreadTells.bits10 (fun HT_ HW_ => ?_)
      generalize wr.drew = w36 at HO_9 BK212 BK213 HB hHeld ⊢
      refine take_ (i := 0) (N := some 64) (v := ?_) (a' := ?_) #[true, false, false, false, false, false, false, false] rfl rfl (take_ofW HT_.out HW_.out (by kernel_rfl)) (fun _ _ _ h => h) (Or.inl ⟨by rfl, ?_⟩) hHeld ?_ ?_
      rotate_left
      · rintro w' ⟨s0, s1, s2, s3, s4, s5⟩
        go_simp
        with_reducible rfl
      rotate_left
      · simp only [Act.put, List.setIfInBounds_toArray, List.set_cons_zero, List.set_cons_succ, i64_w, i32_w]
        rfl
      refine take_ (i := 2) (N := some 66) (v := ?_) (a' := ?_) #[true, false, true, false, false, false, false, false] rfl rfl (take_ofW HT_.out HW_.out (by kernel_rfl)) (fun _ _ _ h => h) (Or.inl ⟨by rfl, ?_⟩) hHeld ?_ ?_
      rotate_left
      · rintro w' ⟨s0, s1, s2, s3, s4, s5⟩
        go_simp
        with_reducible rfl
      rotate_left
      · simp only [Act.put, List.setIfInBounds_toArray, List.set_cons_zero, List.set_cons_succ, i64_w, i32_w]
        rfl
      refine join_ (σ := Value × Value × Nat × Nat) 2 #[true, true, true, true, true, true, false, false] (fun s_ => [(65, .agg #[.int .i64 t220, .int .i64 t221, s_.1]), (67, .agg #[.int .i64 t225, .int .i64 t226, s_.2.1]), (11, .pointer (some ⟨s_.2.2.1, 0, none⟩)), (12, .pointer (some ⟨s_.2.2.2, 0, none⟩))]) (fun s_ w' => (w'.cell? ⟨gb212, 0, none⟩ = some (.int .i64 a0_0) ∧ w'.cell? ⟨gb212, 1, none⟩ = some (.int .i64 a0_1) ∧ w'.cell? ⟨gb212, 2, none⟩ = some (.slice A0_2 l0_2.length c0_2) ∧ w'.cell? ⟨gb213, 0, none⟩ = some (.int .i64 a1_0) ∧ w'.cell? ⟨gb213, 1, none⟩ = some (.int .i64 a1_1) ∧ w'.cell? ⟨gb213, 2, none⟩ = some (.slice A1_2 l1_2.length c1_2)) ∧ (Kd.R (Kd.int .i64) 3 w' w.heap.size (fun k_ => some k_ ≠ (s_.2.1 : Value).ownBlock) s_.1 t222) ∧ (Kd.R (Kd.int .i64) 3 w' w.heap.size (fun k_ => some k_ ≠ (s_.1 : Value).ownBlock) s_.2.1 t227) ∧ (Kd.R k41 41 w' w.heap.size (fun _ => True) u9 x9_2) ∧ (w'.heap[gb212]? = some (.cells #[.int .i64 a0_0, .int .i64 a0_1, .slice A0_2 l0_2.length c0_2] 24 (0, 0))) ∧ (w'.heap[gb213]? = some (.cells #[.int .i64 a1_0, .int .i64 a1_1, .slice A1_2 l1_2.length c1_2] 24 (0, 0))) ∧ (w'.heap[s_.2.2.1]? = some (.cells #[.int .i64 0, .int .i64 0, .slice none 0 0] 24 (0, 0))) ∧ (w'.heap[s_.2.2.2]? = some (.cells #[.int .i64 0, .int .i64 0, .slice none 0 0] 24 (0, 0))) ∧ (w.heap.size ≤ s_.2.2.1) ∧ (w.heap.size ≤ s_.2.2.1) ∧ (gb212 ≠ s_.2.2.1) ∧ (s_.2.2.1 ≠ gb212) ∧ (gb213 ≠ s_.2.2.1) ∧ (s_.2.2.1 ≠ gb213) ∧ (s_.2.2.2 ≠ s_.2.2.1) ∧ (s_.2.2.1 ≠ s_.2.2.2) ∧ (w.heap.size ≤ s_.2.2.2) ∧ (w.heap.size ≤ s_.2.2.2) ∧ (gb212 ≠ s_.2.2.2) ∧ (s_.2.2.2 ≠ gb212) ∧ (gb213 ≠ s_.2.2.2) ∧ (s_.2.2.2 ≠ gb213) ∧ (Below w.heap.size w w')) ?_ ?_
      rotate_left
      · rename_i z0_0_ z0_1_ z0_2_ z0_3_ z0_4_ z0_5_ z0_6_ z0_7_ z0_8_ z0_9_ z0_10_ z0_11_ z0_12_ z0_13_ z0_14_ z0_15_ z0_16_ z0_17_ z0_18_ z0_19_ z0_20_ z0_21_ z0_22_ z0_23_ z0_24_ z0_25_ z0_26_ z0_27_ z0_28_ z0_29_ z0_30_ z0_31_ z0_32_ z0_33_ z0_34_ z0_35_
        revert k a0_0 a0_1 A0_2 c0_2 l0_2 a1_0 a1_1 A1_2 c1_2 l1_2 a2 A3 c3 l3 r w hu24 hu41 HR0_2 HC0_2 HR1_2 HC1_2 HR3 HC3 HRT A5 z0_0_ gb212 w8 GW212 GE212 gb213 w9 GW213 GE213 NB212_213 NB213_212 w10 z0_1_ z0_2_ z0_3_ wc u27 u28 u29 u30 u31 u32 u33 u34 u35 u36 u37 u38 u39 u40 u41 u42 z0_4_ z0_5_ z0_6_ z0_7_ z0_8_ z0_9_ z0_10_ z0_11_ z0_12_ z0_13_ z0_14_ z0_15_ z0_16_ z0_17_ z0_18_ z0_19_ z0_20_ z0_21_ z0_22_ z0_23_ u64 u65 u66 u67 u68 u69 u70 u71 u72 u73 u74 u75 u76 u77 u78 u79 u80 u81 u82 u83 u84 u85 u86 u87 u88 u89 u90 u91 u92 u93 u94 u95 u96 u97 u98 u99 u100 u101 u102 u103 u104 u105 u106 u107 u108 u109 u110 u111 u112 u113 u114 u115 u116 u117 u118 u119 u120 u121 u122 u123 u124 u125 u126 u127 u128 u129 u130 u131 u132 u133 u134 u135 u136 u137 u138 u139 u140 u141 u142 u143 u144 u145 u146 u147 u148 u149 u150 u151 u152 u153 u154 u155 u156 u157 u158 u159 u160 u161 u162 u163 u164 u165 u166 z0_24_ z0_25_ z0_26_ kj6 HJ6 z0_27_ wr u9 u44 u45 u46 u47 u48 u49 u50 u51 u52 u53 u54 u55 u56 u57 u58 u59 u60 u61 u62 u63 z0_28_ z0_29_ z0_30_ x9_2 x10_2 k2 z0_31_ HK2 c22b0 t220 t221 t222 A27 t225 t226 t227 A28 t232 t233 t234 t237 A29 t239 t240 t241 t244 A30 t246 t249 A31 t250 t253 A32 t254 t255 t256 t259 A33 t261 t262 t263 t266 A34 HC35 z0_32_ z0_33_ z0_34_ z0_35_ HT_ HW_ w36 HO_9 BK212 BK213 HB hHeld
        exact hole0_.out
      rintro ⟨v223, v228, gb230, gb231⟩ w41 ⟨hS_, h0_, h1_, h2_, h3_, h4_, h5_, h6_, h7_, h8_, h9_, h10_, h11_, h12_, h13_, h14_, h15_, h16_, h17_, h18_, h19_, h20_, h21_⟩
      have n0_ : Aside0 (Kd.R (Kd.int .i64) 3 w41 w.heap.size (fun k_ => some k_ ≠ (v228 : Value).ownBlock) v223 t222) := ⟨h0_⟩
      have n1_ : Aside0 (Kd.R (Kd.int .i64) 3 w41 w.heap.size (fun k_ => some k_ ≠ (v223 : Value).ownBlock) v228 t227) := ⟨h1_⟩
      have n2_ : Aside0 (Kd.R k41 41 w41 w.heap.size (fun _ => True) u9 x9_2) := ⟨h2_⟩
      have n3_ : Aside0 (w41.heap[gb212]? = some (.cells #[.int .i64 a0_0, .int .i64 a0_1, .slice A0_2 l0_2.length c0_2] 24 (0, 0))) := ⟨h3_⟩
      have n4_ : Aside0 (w41.heap[gb213]? = some (.cells #[.int .i64 a1_0, .int .i64 a1_1, .slice A1_2 l1_2.length c1_2] 24 (0, 0))) := ⟨h4_⟩
      have n5_ : Aside0 (w41.heap[gb230]? = some (.cells #[.int .i64 0, .int .i64 0, .slice none 0 0] 24 (0, 0))) := ⟨h5_⟩
      have n6_ : Aside0 (w41.heap[gb231]? = some (.cells #[.int .i64 0, .int .i64 0, .slice none 0 0] 24 (0, 0))) := ⟨h6_⟩
      have n7_ : Aside0 (w.heap.size ≤ gb230) := ⟨h7_⟩
      have n8_ : Aside0 (w.heap.size ≤ gb230) := ⟨h8_⟩
      have n9_ : Aside0 (gb212 ≠ gb230) := ⟨h9_⟩
      have n10_ : Aside0 (gb230 ≠ gb212) := ⟨h10_⟩
      have n11_ : Aside0 (gb213 ≠ gb230) := ⟨h11_⟩
      have n12_ : Aside0 (gb230 ≠ gb213) := ⟨h12_⟩
      have n13_ : Aside0 (gb231 ≠ gb230) := ⟨h13_⟩
      have n14_ : Aside0 (gb230 ≠ gb231) := ⟨h14_⟩
      have n15_ : Aside0 (w.heap.size ≤ gb231) := ⟨h15_⟩
      have n16_ : Aside0 (w.heap.size ≤ gb231) := ⟨h16_⟩
      have n17_ : Aside0 (gb212 ≠ gb231) := ⟨h17_⟩
      have n18_ : Aside0 (gb231 ≠ gb212) := ⟨h18_⟩
      have n19_ : Aside0 (gb213 ≠ gb231) := ⟨h19_⟩
      have n20_ : Aside0 (gb231 ≠ gb213) := ⟨h20_⟩
      have n21_ : Aside0 (Below w.heap.size w w41) := ⟨h21_⟩
      clear HO_9
      clear BK212
      clear BK213
      clear HB
      clear h0_ h1_ h2_ h3_ h4_ h5_ h6_ h7_ h8_ h9_ h10_ h11_ h12_ h13_ h14_ h15_ h16_ h17_ h18_ h19_ h20_ h21_
      have HO224 := n0_
      have HO229 := n1_
      have HO_9 := n2_
      have BK212 := n3_
      have BK213 := n4_
      have BK230 := n5_
      have BK231 := n6_
      have GW230 := n7_
      have GE230 := n8_
      have NB212_230 := n9_
      have NB230_212 := n10_
      have NB213_230 := n11_
      have NB230_213 := n12_
      have NB231_230 := n13_
      have NB230_231 := n14_
      have GW231 := n15_
      have GE231 := n16_
      have NB212_231 := n17_
      have NB231_212 := n18_
      have NB213_231 := n19_
      have NB231_213 := n20_
      have HB := n21_
      clear n0_ n1_ n2_ n3_ n4_ n5_ n6_ n7_ n8_ n9_ n10_ n11_ n12_ n13_ n14_ n15_ n16_ n17_ n18_ n19_ n20_ n21_
      have hHeld : w41.cell? ⟨gb212, 0, none⟩ = some (.int .i64 a0_0) ∧ w41.cell? ⟨gb212, 1, none⟩ = some (.int .i64 a0_1) ∧ w41.cell? ⟨gb212, 2, none⟩ = some (.slice A0_2 l0_2.length c0_2) ∧ w41.cell? ⟨gb213, 0, none⟩ = some (.int .i64 a1_0) ∧ w41.cell? ⟨gb213, 1, none⟩ = some (.int .i64 a1_1) ∧ w41.cell? ⟨gb213, 2, none⟩ = some (.slice A1_2 l1_2.length c1_2) := hS_
      obtain ⟨Ao44, co44, eo44⟩ := Kd.R_slice HO224.out
      (first | subst eo44 | (injection eo44 with f1_ f2_ f3_; have f4_ := f1_.symm; have f5_ := f3_.symm; clear f1_ f2_ f3_; subst f4_; subst f5_))
      obtain ⟨Ao48, co48, eo48⟩ := Kd.R_slice HO229.out
      (first | subst eo48 | (injection eo48 with f1_ f2_ f3_; have f4_ := f1_.symm; have f5_ := f3_.symm; clear f1_ f2_ f3_; subst f4_; subst f5_))
      refine norm_ (a' := ?_) ?_ ?_
      rotate_left
      · simp only [putAll, Act.put, List.setIfInBounds_toArray, List.set_cons_zero, List.set_cons_succ]
        rfl
      refine one_ (i := 6) (N := none) #[true, true, true, true, true, true, true, false] rfl rfl (one_of HT_.out (by kernel_rfl)) (by decide) (fun K hK => ?_)
      have hs42 : w41.cell? ⟨gb230, 0, none⟩ = some (.int .i64 0) := (blk_cell BK230.out 0).trans rfl
      have hfs42 := blk_frozen BK230.out 0
      have hns42_0 := NB212_230.out
      have hns42_1 := NB213_230.out
      have hns42_3 := NB231_230.out
      have hms42_0 := NB230_212.out
      have hms42_1 := NB230_213.out
      have hms42_3 := NB230_231.out
      have hs43 : w41.cell? ⟨gb230, 1, none⟩ = some (.int .i64 0) := (blk_cell BK230.out 1).trans rfl
      have hfs43 := blk_frozen BK230.out 1
      have hns43_0 := NB212_230.out
      have hns43_1 := NB213_230.out
      have hns43_3 := NB231_230.out
      have hms43_0 := NB230_212.out
      have hms43_1 := NB230_213.out
      have hms43_3 := NB230_231.out
      have hs45 : w41.cell? ⟨gb230, 2, none⟩ = some (.slice none 0 0) := (blk_cell BK230.out 2).trans rfl
      have hfs45 := blk_frozen BK230.out 2
      have hns45_0 := NB212_230.out
      have hns45_1 := NB213_230.out
      have hns45_3 := NB231_230.out
      have hms45_0 := NB230_212.out
      have hms45_1 := NB230_213.out
      have hms45_3 := NB230_231.out
      refine skip_ (w1 := ?_) (by rfl) rfl ?_ ?_
      rotate_left
      · go_simp
        rfl
      refine hK.out _ _ ⟨((cell_far (p := ⟨gb230, _, none⟩) NB212_230.out _).trans (((cell_far (p := ⟨gb230, _, none⟩) NB212_230.out _).trans (((cell_far (p := ⟨gb230, _, none⟩) NB212_230.out _).trans (hHeld.1)))))), ((cell_far (p := ⟨gb230, _, none⟩) NB212_230.out _).trans (((cell_far (p := ⟨gb230, _, none⟩) NB212_230.out _).trans (((cell_far (p := ⟨gb230, _, none⟩) NB212_230.out _).trans (hHeld.2.1)))))), ((cell_far (p := ⟨gb230, _, none⟩) NB212_230.out _).trans (((cell_far (p := ⟨gb230, _, none⟩) NB212_230.out _).trans (((cell_far (p := ⟨gb230, _, none⟩) NB212_230.out _).trans (hHeld.2.2.1)))))), ((cell_far (p := ⟨gb230, _, none⟩) NB213_230.out _).trans (((cell_far (p := ⟨gb230, _, none⟩) NB213_230.out _).trans (((cell_far (p := ⟨gb230, _, none⟩) NB213_230.out _).trans (hHeld.2.2.2.1)))))), ((cell_far (p := ⟨gb230, _, none⟩) NB213_230.out _).trans (((cell_far (p := ⟨gb230, _, none⟩) NB213_230.out _).trans (((cell_far (p := ⟨gb230, _, none⟩) NB213_230.out _).trans (hHeld.2.2.2.2.1)))))), ((cell_far (p := ⟨gb230, _, none⟩) NB213_230.out _).trans (((cell_far (p := ⟨gb230, _, none⟩) NB213_230.out _).trans (((cell_far (p := ⟨gb230, _, none⟩) NB213_230.out _).trans (hHeld.2.2.2.2.2))))))⟩ (fun hHeld => ?_)
      clear hK K
      refine one_ (i := 7) (N := none) #[true, true, true, true, true, true, true, true] rfl rfl (one_of HT_.out (by kernel_rfl)) (by decide) (fun K hK => ?_)
      have hs46 : w41.cell? ⟨gb231, 0, none⟩ = some (.int .i64 0) := (blk_cell BK231.out 0).trans rfl
      have hfs46 := blk_frozen BK231.out 0
      have hns46_0 := NB212_231.out
      have hns46_1 := NB213_231.out
      have hns46_2 := NB230_231.out
      have hms46_0 := NB231_212.out
      have hms46_1 := NB231_213.out
      have hms46_2 := NB231_230.out
      have hs47 : w41.cell? ⟨gb231, 1, none⟩ = some (.int .i64 0) := (blk_cell BK231.out 1).trans rfl
      have hfs47 := blk_frozen BK231.out 1
      have hns47_0 := NB212_231.out
      have hns47_1 := NB213_231.out
      have hns47_2 := NB230_231.out
      have hms47_0 := NB231_212.out
      have hms47_1 := NB231_213.out
      have hms47_2 := NB231_230.out
      have hs49 : w41.cell? ⟨gb231, 2, none⟩ = some (.slice none 0 0) := (blk_cell BK231.out 2).trans rfl
      have hfs49 := blk_frozen BK231.out 2
      have hns49_0 := NB212_231.out
      have hns49_1 := NB213_231.out
      have hns49_2 := NB230_231.out
      have hms49_0 := NB231_212.out
      have hms49_1 := NB231_213.out
      have hms49_2 := NB231_230.out
      refine skip_ (w1 := ?_) (by rfl) rfl ?_ ?_
      rotate_left
      · go_simp
        rfl
      refine hK.out _ _ ⟨((cell_far (p := ⟨gb231, _, none⟩) NB212_231.out _).trans (((cell_far (p := ⟨gb231, _, none⟩) NB212_231.out _).trans (((cell_far (p := ⟨gb231, _, none⟩) NB212_231.out _).trans (hHeld.1)))))), ((cell_far (p := ⟨gb231, _, none⟩) NB212_231.out _).trans (((cell_far (p := ⟨gb231, _, none⟩) NB212_231.out _).trans (((cell_far (p := ⟨gb231, _, none⟩) NB212_231.out _).trans (hHeld.2.1)))))), ((cell_far (p := ⟨gb231, _, none⟩) NB212_231.out _).trans (((cell_far (p := ⟨gb231, _, none⟩) NB212_231.out _).trans (((cell_far (p := ⟨gb231, _, none⟩) NB212_231.out _).trans (hHeld.2.2.1)))))), ((cell_far (p := ⟨gb231, _, none⟩) NB213_231.out _).trans (((cell_far (p := ⟨gb231, _, none⟩) NB213_231.out _).trans (((cell_far (p := ⟨gb231, _, none⟩) NB213_231.out _).trans (hHeld.2.2.2.1)))))), ((cell_far (p := ⟨gb231, _, none⟩) NB213_231.out _).trans (((cell_far (p := ⟨gb231, _, none⟩) NB213_231.out _).trans (((cell_far (p := ⟨gb231, _, none⟩) NB213_231.out _).trans (hHeld.2.2.2.2.1)))))), ((cell_far (p := ⟨gb231, _, none⟩) NB213_231.out _).trans (((cell_far (p := ⟨gb231, _, none⟩) NB213_231.out _).trans (((cell_far (p := ⟨gb231, _, none⟩) NB213_231.out _).trans (hHeld.2.2.2.2.2))))))⟩ (fun hHeld => ?_)
      clear hK K
      refine done_ (done_of HT_.out (by kernel_rfl)) ?_
      have hnb50 := NB230_212.out
      have hnc50 := NB212_230.out
      have hnb51 := NB230_213.out
      have hnc51 := NB213_230.out
      have hnb52 := NB230_231.out
      have hnc52 := NB231_230.out
      have hcz53_0 : w41.cell? ⟨gb230, 0, none⟩ = some (.int .i64 0) := (blk_cell BK230.out 0).trans rfl
      have hcz53_1 : w41.cell? ⟨gb230, 1, none⟩ = some (.int .i64 0) := (blk_cell BK230.out 1).trans rfl
      have hcz53_2 : w41.cell? ⟨gb230, 2, none⟩ = some (.slice none 0 0) := (blk_cell BK230.out 2).trans rfl
      have hfz53_0 := blk_frozen BK230.out 0
      have hfz53_1 := blk_frozen BK230.out 1
      have hfz53_2 := blk_frozen BK230.out 2
      have hnb54 := NB231_212.out
      have hnc54 := NB212_231.out
      have hnb55 := NB231_213.out
      have hnc55 := NB213_231.out
      have hcz56_0 : w41.cell? ⟨gb231, 0, none⟩ = some (.int .i64 0) := (blk_cell BK231.out 0).trans rfl
      have hcz56_1 : w41.cell? ⟨gb231, 1, none⟩ = some (.int .i64 0) := (blk_cell BK231.out 1).trans rfl
      have hcz56_2 : w41.cell? ⟨gb231, 2, none⟩ = some (.slice none 0 0) := (blk_cell BK231.out 2).trans rfl
      have hfz56_0 := blk_frozen BK231.out 0
      have hfz56_1 := blk_frozen BK231.out 1
      have hfz56_2 := blk_frozen BK231.out 2
      go_upto_region 17 with (first | ((with_reducible refine gate_callee (f := 9) rfl ?_); refine goesL_ (some 71) rfl rfl Try.func9 (by kernel_rfl) rfl #[.agg #[.int .i64 t220, .int .i64 t221, .slice Ao44 t222.length co44], .agg #[.int .i64 t225, .int .i64 t226, .slice Ao48 t227.length co48]] rfl (by (try simp only [List.map_toArray, List.map_cons, List.map_nil]); first | done | rfl | (simp only [List.length_drop, List.length_take]; rfl)) ?_; (with_reducible refine (spread_Keep.calls t220 t221 _ _ t222 t225 t226 _ _ t227 t232 t233 t234 t237 _ ?side1 ?side2 ?side3 ?side4 A29.out).mono ?_); (case side1 => refine (Kd.R_reads' (e := 3) (base := w.heap.size) (ok := fun k_ => some k_ ≠ (.slice Ao48 t227.length co48 : Value).ownBlock) (n := t222.length) (c := co44) ?_).2.2; exact (by (with_reducible repeat (first | apply Kd.R_alloc | apply Kd.R_drewN | apply Kd.R_drew)); exact (Kd.R_mono (Kd.R_mono (Kd.R_far (p := ⟨gb231, 2, none⟩) (Kd.R_far (p := ⟨gb231, 1, none⟩) (Kd.R_far (p := ⟨gb231, 0, none⟩) (Kd.R_far (p := ⟨gb230, 2, none⟩) (Kd.R_far (p := ⟨gb230, 1, none⟩) (Kd.R_far (p := ⟨gb230, 0, none⟩) (Kd.R_types (Kd.R_types HO224.out BK230.out (by decide)) BK231.out (by decide)) (fun _ hk => hk.1.2) (.int .i64 t220)) (fun _ hk => hk.1.2) (.int .i64 t221)) (fun _ hk => hk.1.2) (.slice Ao44 t222.length co44)) (fun _ hk => hk.2) (.int .i64 t225)) (fun _ hk => hk.2) (.int .i64 t226)) (fun _ hk => hk.2) (.slice Ao48 t227.length co48)) (fun _ h_ => h_.1)) (fun _ h_ => h_.1)))); (case side2 => exact (Kd.R_reads' HO224.out).2.1); (case side3 => refine (Kd.R_reads' (e := 3) (base := w.heap.size) (ok := fun k_ => some k_ ≠ (.slice Ao44 t222.length co44 : Value).ownBlock) (n := t227.length) (c := co48) ?_).2.2; exact (by (with_reducible repeat (first | apply Kd.R_alloc | apply Kd.R_drewN | apply Kd.R_drew)); exact (Kd.R_mono (Kd.R_mono (Kd.R_far (p := ⟨gb231, 2, none⟩) (Kd.R_far (p := ⟨gb231, 1, none⟩) (Kd.R_far (p := ⟨gb231, 0, none⟩) (Kd.R_far (p := ⟨gb230, 2, none⟩) (Kd.R_far (p := ⟨gb230, 1, none⟩) (Kd.R_far (p := ⟨gb230, 0, none⟩) (Kd.R_types (Kd.R_types HO229.out BK230.out (by decide)) BK231.out (by decide)) (fun _ hk => hk.1.2) (.int .i64 t220)) (fun _ hk => hk.1.2) (.int .i64 t221)) (fun _ hk => hk.1.2) (.slice Ao44 t222.length co44)) (fun _ hk => hk.2) (.int .i64 t225)) (fun _ hk => hk.2) (.int .i64 t226)) (fun _ hk => hk.2) (.slice Ao48 t227.length co48)) (fun _ h_ => h_.1)) (fun _ h_ => h_.1)))); (case side4 => exact (Kd.R_reads' HO229.out).2.1); rintro e w57 ⟨v235, rfl, ho0, hb⟩; refine ⟨_, rfl, ?_⟩; have n0_ := qM (Kd.R_below (by (with_reducible repeat (first | apply Kd.R_alloc | apply Kd.R_drewN | apply Kd.R_drew)); exact (Kd.R_mono (Kd.R_mono (Kd.R_far (p := ⟨gb231, 2, none⟩) (Kd.R_far (p := ⟨gb231, 1, none⟩) (Kd.R_far (p := ⟨gb231, 0, none⟩) (Kd.R_far (p := ⟨gb230, 2, none⟩) (Kd.R_far (p := ⟨gb230, 1, none⟩) (Kd.R_far (p := ⟨gb230, 0, none⟩) (Kd.R_types (Kd.R_types HO_9.out BK230.out (by decide)) BK231.out (by decide)) (fun _ hk => hk.1.2) (.int .i64 t220)) (fun _ hk => hk.1.2) (.int .i64 t221)) (fun _ hk => hk.1.2) (.slice Ao44 t222.length co44)) (fun _ hk => hk.2) (.int .i64 t225)) (fun _ hk => hk.2) (.int .i64 t226)) (fun _ hk => hk.2) (.slice Ao48 t227.length co48)) (fun _ h_ => h_.1)) (fun _ h_ => h_.1))) hb); have n1_ := qM (Kd.R_elder' (by (with_reducible repeat (first | apply Kd.R_alloc | apply Kd.R_drewN | apply Kd.R_drew)); exact (Kd.R_mono (Kd.R_mono (Kd.R_far (p := ⟨gb231, 2, none⟩) (Kd.R_far (p := ⟨gb231, 1, none⟩) (Kd.R_far (p := ⟨gb231, 0, none⟩) (Kd.R_far (p := ⟨gb230, 2, none⟩) (Kd.R_far (p := ⟨gb230, 1, none⟩) (Kd.R_far (p := ⟨gb230, 0, none⟩) (Kd.R_types (Kd.R_types HO224.out BK230.out (by decide)) BK231.out (by decide)) (fun _ hk => hk.1.2) (.int .i64 t220)) (fun _ hk => hk.1.2) (.int .i64 t221)) (fun _ hk => hk.1.2) (.slice Ao44 t222.length co44)) (fun _ hk => hk.2) (.int .i64 t225)) (fun _ hk => hk.2) (.int .i64 t226)) (fun _ hk => hk.2) (.slice Ao48 t227.length co48)) (fun _ h_ => h_.1)) (fun _ h_ => h_.1))) (Kd.R_base ho0) hb); have n2_ := qM (Kd.R_elder' (by (with_reducible repeat (first | apply Kd.R_alloc | apply Kd.R_drewN | apply Kd.R_drew)); exact (Kd.R_mono (Kd.R_mono (Kd.R_far (p := ⟨gb231, 2, none⟩) (Kd.R_far (p := ⟨gb231, 1, none⟩) (Kd.R_far (p := ⟨gb231, 0, none⟩) (Kd.R_far (p := ⟨gb230, 2, none⟩) (Kd.R_far (p := ⟨gb230, 1, none⟩) (Kd.R_far (p := ⟨gb230, 0, none⟩) (Kd.R_types (Kd.R_types HO229.out BK230.out (by decide)) BK231.out (by decide)) (fun _ hk => hk.1.2) (.int .i64 t220)) (fun _ hk => hk.1.2) (.int .i64 t221)) (fun _ hk => hk.1.2) (.slice Ao44 t222.length co44)) (fun _ hk => hk.2) (.int .i64 t225)) (fun _ hk => hk.2) (.int .i64 t226)) (fun _ hk => hk.2) (.slice Ao48 t227.length co48)) (fun _ h_ => h_.1)) (fun _ h_ => h_.1))) (Kd.R_base ho0) hb); have n3_ := qM (Kd.R_lower (Kd.R_new' (Kd.R_new' ho0 (Kd.R_lt (by (with_reducible repeat (first | apply Kd.R_alloc | apply Kd.R_drewN | apply Kd.R_drew)); exact (Kd.R_mono (Kd.R_mono (Kd.R_far (p := ⟨gb231, 2, none⟩) (Kd.R_far (p := ⟨gb231, 1, none⟩) (Kd.R_far (p := ⟨gb231, 0, none⟩) (Kd.R_far (p := ⟨gb230, 2, none⟩) (Kd.R_far (p := ⟨gb230, 1, none⟩) (Kd.R_far (p := ⟨gb230, 0, none⟩) (Kd.R_types (Kd.R_types HO224.out BK230.out (by decide)) BK231.out (by decide)) (fun _ hk => hk.1.2) (.int .i64 t220)) (fun _ hk => hk.1.2) (.int .i64 t221)) (fun _ hk => hk.1.2) (.slice Ao44 t222.length co44)) (fun _ hk => hk.2) (.int .i64 t225)) (fun _ hk => hk.2) (.int .i64 t226)) (fun _ hk => hk.2) (.slice Ao48 t227.length co48)) (fun _ h_ => h_.1)) (fun _ h_ => h_.1))))) (Kd.R_lt (by (with_reducible repeat (first | apply Kd.R_alloc | apply Kd.R_drewN | apply Kd.R_drew)); exact (Kd.R_mono (Kd.R_mono (Kd.R_far (p := ⟨gb231, 2, none⟩) (Kd.R_far (p := ⟨gb231, 1, none⟩) (Kd.R_far (p := ⟨gb231, 0, none⟩) (Kd.R_far (p := ⟨gb230, 2, none⟩) (Kd.R_far (p := ⟨gb230, 1, none⟩) (Kd.R_far (p := ⟨gb230, 0, none⟩) (Kd.R_types (Kd.R_types HO229.out BK230.out (by decide)) BK231.out (by decide)) (fun _ hk => hk.1.2) (.int .i64 t220)) (fun _ hk => hk.1.2) (.int .i64 t221)) (fun _ hk => hk.1.2) (.slice Ao44 t222.length co44)) (fun _ hk => hk.2) (.int .i64 t225)) (fun _ hk => hk.2) (.int .i64 t226)) (fun _ hk => hk.2) (.slice Ao48 t227.length co48)) (fun _ h_ => h_.1)) (fun _ h_ => h_.1))))) (below_size (by repeat (first | (with_reducible first | exact HB.out | apply below_alloc | apply pw_below_drewN | apply below_drew1 | refine below_set ?_ GE212.out | refine below_set ?_ GE213.out | refine below_set ?_ GE230.out | refine below_set ?_ GE231.out) | exact HB.out)))); have n4_ := qM (blk_below (g := gb212) (o := .cells #[.int .i64 a0_0, .int .i64 a0_1, .slice A0_2 l0_2.length c0_2] 24 (0, 0)) (by (with_reducible repeat (first | apply bN | apply bD | apply bA)); refine blk_far ?_ NB212_231.out _; (with_reducible repeat (first | apply bN | apply bD | apply bA)); refine blk_far ?_ NB212_231.out _; (with_reducible repeat (first | apply bN | apply bD | apply bA)); refine blk_far ?_ NB212_231.out _; (with_reducible repeat (first | apply bN | apply bD | apply bA)); refine blk_far ?_ NB212_230.out _; (with_reducible repeat (first | apply bN | apply bD | apply bA)); refine blk_far ?_ NB212_230.out _; (with_reducible repeat (first | apply bN | apply bD | apply bA)); refine blk_far ?_ NB212_230.out _; (with_reducible repeat (first | apply bN | apply bD | apply bA)); exact BK212.out) hb); have n5_ := qM (blk_below (g := gb213) (o := .cells #[.int .i64 a1_0, .int .i64 a1_1, .slice A1_2 l1_2.length c1_2] 24 (0, 0)) (by (with_reducible repeat (first | apply bN | apply bD | apply bA)); refine blk_far ?_ NB213_231.out _; (with_reducible repeat (first | apply bN | apply bD | apply bA)); refine blk_far ?_ NB213_231.out _; (with_reducible repeat (first | apply bN | apply bD | apply bA)); refine blk_far ?_ NB213_231.out _; (with_reducible repeat (first | apply bN | apply bD | apply bA)); refine blk_far ?_ NB213_230.out _; (with_reducible repeat (first | apply bN | apply bD | apply bA)); refine blk_far ?_ NB213_230.out _; (with_reducible repeat (first | apply bN | apply bD | apply bA)); refine blk_far ?_ NB213_230.out _; (with_reducible repeat (first | apply bN | apply bD | apply bA)); exact BK213.out) hb); have n6_ := qM (blk_below (g := gb230) (o := .cells #[.int .i64 t220, .int .i64 t221, .slice Ao44 t222.length co44] 24 (0, 0)) (by (with_reducible repeat (first | apply bN | apply bD | apply bA)); refine blk_far ?_ NB230_231.out _; (with_reducible repeat (first | apply bN | apply bD | apply bA)); refine blk_far ?_ NB230_231.out _; (with_reducible repeat (first | apply bN | apply bD | apply bA)); refine blk_far ?_ NB230_231.out _; (with_reducible repeat (first | apply bN | apply bD | apply bA)); refine blk_put (cs := #[.int .i64 t220, .int .i64 t221, .slice none 0 0]) ?_ 2 _ rfl; (with_reducible repeat (first | apply bN | apply bD | apply bA)); refine blk_put (cs := #[.int .i64 t220, .int .i64 0, .slice none 0 0]) ?_ 1 _ rfl; (with_reducible repeat (first | apply bN | apply bD | apply bA)); refine blk_put (cs := #[.int .i64 0, .int .i64 0, .slice none 0 0]) ?_ 0 _ rfl; (with_reducible repeat (first | apply bN | apply bD | apply bA)); exact BK230.out) hb); have n7_ := qM (blk_below (g := gb231) (o := .cells #[.int .i64 t225, .int .i64 t226, .slice Ao48 t227.length co48] 24 (0, 0)) (by (with_reducible repeat (first | apply bN | apply bD | apply bA)); refine blk_put (cs := #[.int .i64 t225, .int .i64 t226, .slice none 0 0]) ?_ 2 _ rfl; (with_reducible repeat (first | apply bN | apply bD | apply bA)); refine blk_put (cs := #[.int .i64 t225, .int .i64 0, .slice none 0 0]) ?_ 1 _ rfl; (with_reducible repeat (first | apply bN | apply bD | apply bA)); refine blk_put (cs := #[.int .i64 0, .int .i64 0, .slice none 0 0]) ?_ 0 _ rfl; (with_reducible repeat (first | apply bN | apply bD | apply bA)); refine blk_far ?_ NB231_230.out _; (with_reducible repeat (first | apply bN | apply bD | apply bA)); refine blk_far ?_ NB231_230.out _; (with_reducible repeat (first | apply bN | apply bD | apply bA)); refine blk_far ?_ NB231_230.out _; (with_reducible repeat (first | apply bN | apply bD | apply bA)); exact BK231.out) hb); have n8_ := qM (below_step (by repeat (first | (with_reducible first | exact HB.out | apply below_alloc | apply pw_below_drewN | apply below_drew1 | refine below_set ?_ GE212.out | refine below_set ?_ GE213.out | refine below_set ?_ GE230.out | refine below_set ?_ GE231.out) | exact HB.out)) hb); clear HO_9; clear HO224; clear HO229; clear BK212; clear BK213; clear BK230; clear BK231; clear HB; have HO_9 := n0_; have HO224 := n1_; have HO229 := n2_; have HO236 := n3_; have BK212 := n4_; have BK213 := n5_; have BK230 := n6_; have BK231 := n7_; have HB := n8_; clear n0_ n1_ n2_ n3_ n4_ n5_ n6_ n7_ n8_; (try clear hb); (try clear hb2); (try clear hk); (try clear hi); (try clear ho0)) | ((with_reducible refine gate_dst (N := 13) rfl ?_); (try (refine gate_guard (by rfl) ?_; dsimp only)); refine box_event ?hg (N := 13) ?hd (cs := #[.int .i64 0, .int .i64 0, .slice none 0 0]) (t := 24) ?hr ?_; (case hd => rfl); (case hg => rfl); (case hr => first | (go_simp; done) | (go_simp; rfl)); intro gb238 hg w58 hbox hb; have n0_ := qM (Kd.R_below (by (with_reducible repeat (first | apply Kd.R_alloc | apply Kd.R_drewN | apply Kd.R_drew)); exact HO_9.out) hb); have n1_ := qM (Kd.R_below (by (with_reducible repeat (first | apply Kd.R_alloc | apply Kd.R_drewN | apply Kd.R_drew)); exact HO224.out) hb); have n2_ := qM (Kd.R_below (by (with_reducible repeat (first | apply Kd.R_alloc | apply Kd.R_drewN | apply Kd.R_drew)); exact HO229.out) hb); have n3_ := qM (Kd.R_below (by (with_reducible repeat (first | apply Kd.R_alloc | apply Kd.R_drewN | apply Kd.R_drew)); exact HO236.out) hb); have n4_ := qM (blk_below (g := gb212) (o := .cells #[.int .i64 a0_0, .int .i64 a0_1, .slice A0_2 l0_2.length c0_2] 24 (0, 0)) (by (with_reducible repeat (first | apply bN | apply bD | apply bA)); exact BK212.out) hb); have n5_ := qM (blk_below (g := gb213) (o := .cells #[.int .i64 a1_0, .int .i64 a1_1, .slice A1_2 l1_2.length c1_2] 24 (0, 0)) (by (with_reducible repeat (first | apply bN | apply bD | apply bA)); exact BK213.out) hb); have n6_ := qM (blk_below (g := gb230) (o := .cells #[.int .i64 t220, .int .i64 t221, .slice Ao44 t222.length co44] 24 (0, 0)) (by (with_reducible repeat (first | apply bN | apply bD | apply bA)); exact BK230.out) hb); have n7_ := qM (blk_below (g := gb231) (o := .cells #[.int .i64 t225, .int .i64 t226, .slice Ao48 t227.length co48] 24 (0, 0)) (by (with_reducible repeat (first | apply bN | apply bD | apply bA)); exact BK231.out) hb); have n8_ := qM (below_step (by repeat (first | (with_reducible first | exact HB.out | apply below_alloc | apply pw_below_drewN | apply below_drew1 | refine below_set ?_ GE212.out | refine below_set ?_ GE213.out | refine below_set ?_ GE230.out | refine below_set ?_ GE231.out) | exact HB.out)) hb); have n9_ := qM (hbox); have n10_ := qM ((by rw [hg]; exact (below_size (by repeat (first | (with_reducible first | exact HB.out | apply below_alloc | apply pw_below_drewN | apply below_drew1 | refine below_set ?_ GE212.out | refine below_set ?_ GE213.out | refine below_set ?_ GE230.out | refine below_set ?_ GE231.out) | exact HB.out))) : w.heap.size ≤ gb238)); have n11_ := qM ((by rw [hg]; exact (below_size (by repeat (first | (with_reducible first | exact HB.out | apply below_alloc | apply pw_below_drewN | apply below_drew1 | refine below_set ?_ GE212.out | refine below_set ?_ GE213.out | refine below_set ?_ GE230.out | refine below_set ?_ GE231.out) | exact HB.out))) : w.heap.size ≤ gb238)); have n12_ := qM ((by rw [hg]; exact Nat.ne_of_lt (blk_lt (g := gb212) (o := .cells #[.int .i64 a0_0, .int .i64 a0_1, .slice A0_2 l0_2.length c0_2] 24 (0, 0)) (by (with_reducible repeat (first | apply bN | apply bD | apply bA)); exact BK212.out)) : gb212 ≠ gb238)); have n13_ := qM ((by rw [hg]; exact Nat.ne_of_gt (blk_lt (g := gb212) (o := .cells #[.int .i64 a0_0, .int .i64 a0_1, .slice A0_2 l0_2.length c0_2] 24 (0, 0)) (by (with_reducible repeat (first | apply bN | apply bD | apply bA)); exact BK212.out)) : gb238 ≠ gb212)); have n14_ := qM ((by rw [hg]; exact Nat.ne_of_lt (blk_lt (g := gb213) (o := .cells #[.int .i64 a1_0, .int .i64 a1_1, .slice A1_2 l1_2.length c1_2] 24 (0, 0)) (by (with_reducible repeat (first | apply bN | apply bD | apply bA)); exact BK213.out)) : gb213 ≠ gb238)); have n15_ := qM ((by rw [hg]; exact Nat.ne_of_gt (blk_lt (g := gb213) (o := .cells #[.int .i64 a1_0, .int .i64 a1_1, .slice A1_2 l1_2.length c1_2] 24 (0, 0)) (by (with_reducible repeat (first | apply bN | apply bD | apply bA)); exact BK213.out)) : gb238 ≠ gb213)); have n16_ := qM ((by rw [hg]; exact Nat.ne_of_lt (blk_lt (g := gb230) (o := .cells #[.int .i64 t220, .int .i64 t221, .slice Ao44 t222.length co44] 24 (0, 0)) (by (with_reducible repeat (first | apply bN | apply bD | apply bA)); exact BK230.out)) : gb230 ≠ gb238)); have n17_ := qM ((by rw [hg]; exact Nat.ne_of_gt (blk_lt (g := gb230) (o := .cells #[.int .i64 t220, .int .i64 t221, .slice Ao44 t222.length co44] 24 (0, 0)) (by (with_reducible repeat (first | apply bN | apply bD | apply bA)); exact BK230.out)) : gb238 ≠ gb230)); have n18_ := qM ((by rw [hg]; exact Nat.ne_of_lt (blk_lt (g := gb231) (o := .cells #[.int .i64 t225, .int .i64 t226, .slice Ao48 t227.length co48] 24 (0, 0)) (by (with_reducible repeat (first | apply bN | apply bD | apply bA)); exact BK231.out)) : gb231 ≠ gb238)); have n19_ := qM ((by rw [hg]; exact Nat.ne_of_gt (blk_lt (g := gb231) (o := .cells #[.int .i64 t225, .int .i64 t226, .slice Ao48 t227.length co48] 24 (0, 0)) (by (with_reducible repeat (first | apply bN | apply bD | apply bA)); exact BK231.out)) : gb238 ≠ gb231)); clear HO_9; clear HO224; clear HO229; clear HO236; clear BK212; clear BK213; clear BK230; clear BK231; clear HB; have HO_9 := n0_; have HO224 := n1_; have HO229 := n2_; have HO236 := n3_; have BK212 := n4_; have BK213 := n5_; have BK230 := n6_; have BK231 := n7_; have HB := n8_; have BK238 := n9_; have GW238 := n10_; have GE238 := n11_; have NB212_238 := n12_; have NB238_212 := n13_; have NB213_238 := n14_; have NB238_213 := n15_; have NB230_238 := n16_; have NB238_230 := n17_; have NB231_238 := n18_; have NB238_231 := n19_; clear n0_ n1_ n2_ n3_ n4_ n5_ n6_ n7_ n8_ n9_ n10_ n11_ n12_ n13_ n14_ n15_ n16_ n17_ n18_ n19_; clear hb hbox hg; have hnb59 := NB238_212.out; have hnc59 := NB212_238.out; have hnb60 := NB238_213.out; have hnc60 := NB213_238.out; have hnb61 := NB238_230.out; have hnc61 := NB230_238.out; have hnb62 := NB238_231.out; have hnc62 := NB231_238.out; have hcz63_0 : w58.cell? ⟨gb238, 0, none⟩ = some (.int .i64 0) := (blk_cell BK238.out 0).trans rfl; have hcz63_1 : w58.cell? ⟨gb238, 1, none⟩ = some (.int .i64 0) := (blk_cell BK238.out 1).trans rfl; have hcz63_2 : w58.cell? ⟨gb238, 2, none⟩ = some (.slice none 0 0) := (blk_cell BK238.out 2).trans rfl; have hfz63_0 := blk_frozen BK238.out 0; have hfz63_1 := blk_frozen BK238.out 1; have hfz63_2 := blk_frozen BK238.out 2; obtain ⟨Ao64, co64, eo64⟩ := Kd.R_slice HO236.out; subst eo64) | ((with_reducible refine gate_store (t := 24) (p := 13) rfl ?_); refine store_event (t := 24) (p := 13) (v := ?vo_w65) (w1 := (((w58.setCell ⟨gb238, 0, none⟩ (.int .i64 t232)).setCell ⟨gb238, 1, none⟩ (.int .i64 t233)).setCell ⟨gb238, 2, none⟩ (.slice Ao64 t234.length co64))) ?hg ?ho ?hn ?hr ?_; (case ho => rfl); (case hg => rfl); (case hn => rfl); (case hr => first | (go_simp; done) | (go_simp; rfl)); intro w65 hw; have n0_ : Aside0 (Kd.R k41 41 w65 w.heap.size (fun _ => True) u9 x9_2) := ⟨(by rw [hw]; exact (by (with_reducible repeat (first | apply Kd.R_alloc | apply Kd.R_drewN | apply Kd.R_drew)); exact Kd.R_mono (Kd.R_far (p := ⟨gb238, 2, none⟩) (Kd.R_far (p := ⟨gb238, 1, none⟩) (Kd.R_far (p := ⟨gb238, 0, none⟩) (Kd.R_types HO_9.out BK238.out (by decide)) (fun _ hk => hk.2) (.int .i64 t232)) (fun _ hk => hk.2) (.int .i64 t233)) (fun _ hk => hk.2) (.slice Ao64 t234.length co64)) (fun _ hk => trivial)))⟩; have n1_ : Aside0 (Kd.R (Kd.int .i64) 3 w65 w.heap.size (fun k_ => some k_ ≠ (.slice Ao48 t227.length co48 : Value).ownBlock ∧ some k_ ≠ (.slice Ao64 t234.length co64 : Value).ownBlock) (.slice Ao44 t222.length co44) t222) := ⟨(by rw [hw]; exact (by (with_reducible repeat (first | apply Kd.R_alloc | apply Kd.R_drewN | apply Kd.R_drew)); exact Kd.R_mono (Kd.R_far (p := ⟨gb238, 2, none⟩) (Kd.R_far (p := ⟨gb238, 1, none⟩) (Kd.R_far (p := ⟨gb238, 0, none⟩) (Kd.R_types HO224.out BK238.out (by decide)) (fun _ hk => hk.2) (.int .i64 t232)) (fun _ hk => hk.2) (.int .i64 t233)) (fun _ hk => hk.2) (.slice Ao64 t234.length co64)) (fun _ hk => ⟨hk.1.1, hk.1.2⟩)))⟩; have n2_ : Aside0 (Kd.R (Kd.int .i64) 3 w65 w.heap.size (fun k_ => some k_ ≠ (.slice Ao44 t222.length co44 : Value).ownBlock ∧ some k_ ≠ (.slice Ao64 t234.length co64 : Value).ownBlock) (.slice Ao48 t227.length co48) t227) := ⟨(by rw [hw]; exact (by (with_reducible repeat (first | apply Kd.R_alloc | apply Kd.R_drewN | apply Kd.R_drew)); exact Kd.R_mono (Kd.R_far (p := ⟨gb238, 2, none⟩) (Kd.R_far (p := ⟨gb238, 1, none⟩) (Kd.R_far (p := ⟨gb238, 0, none⟩) (Kd.R_types HO229.out BK238.out (by decide)) (fun _ hk => hk.2) (.int .i64 t232)) (fun _ hk => hk.2) (.int .i64 t233)) (fun _ hk => hk.2) (.slice Ao64 t234.length co64)) (fun _ hk => ⟨hk.1.1, hk.1.2⟩)))⟩; have n3_ : Aside0 (Kd.R (Kd.int .i64) 3 w65 w.heap.size (fun k_ => some k_ ≠ (.slice Ao44 t222.length co44 : Value).ownBlock ∧ some k_ ≠ (.slice Ao48 t227.length co48 : Value).ownBlock) (.slice Ao64 t234.length co64) t234) := ⟨(by rw [hw]; exact (by (with_reducible repeat (first | apply Kd.R_alloc | apply Kd.R_drewN | apply Kd.R_drew)); exact Kd.R_mono (Kd.R_far (p := ⟨gb238, 2, none⟩) (Kd.R_far (p := ⟨gb238, 1, none⟩) (Kd.R_far (p := ⟨gb238, 0, none⟩) (Kd.R_types HO236.out BK238.out (by decide)) (fun _ hk => hk.2) (.int .i64 t232)) (fun _ hk => hk.2) (.int .i64 t233)) (fun _ hk => hk.2) (.slice Ao64 t234.length co64)) (fun _ hk => ⟨hk.1.1.2, hk.1.2⟩)))⟩; have n4_ : Aside0 (w65.heap[gb212]? = some (.cells #[.int .i64 a0_0, .int .i64 a0_1, .slice A0_2 l0_2.length c0_2] 24 (0, 0))) := ⟨(by rw [hw]; exact (by (with_reducible repeat (first | apply bN | apply bD | apply bA)); refine blk_far ?_ NB212_238.out _; (with_reducible repeat (first | apply bN | apply bD | apply bA)); refine blk_far ?_ NB212_238.out _; (with_reducible repeat (first | apply bN | apply bD | apply bA)); refine blk_far ?_ NB212_238.out _; (with_reducible repeat (first | apply bN | apply bD | apply bA)); exact BK212.out))⟩; have n5_ : Aside0 (w65.heap[gb213]? = some (.cells #[.int .i64 a1_0, .int .i64 a1_1, .slice A1_2 l1_2.length c1_2] 24 (0, 0))) := ⟨(by rw [hw]; exact (by (with_reducible repeat (first | apply bN | apply bD | apply bA)); refine blk_far ?_ NB213_238.out _; (with_reducible repeat (first | apply bN | apply bD | apply bA)); refine blk_far ?_ NB213_238.out _; (with_reducible repeat (first | apply bN | apply bD | apply bA)); refine blk_far ?_ NB213_238.out _; (with_reducible repeat (first | apply bN | apply bD | apply bA)); exact BK213.out))⟩; have n6_ : Aside0 (w65.heap[gb230]? = some (.cells #[.int .i64 t220, .int .i64 t221, .slice Ao44 t222.length co44] 24 (0, 0))) := ⟨(by rw [hw]; exact (by (with_reducible repeat (first | apply bN | apply bD | apply bA)); refine blk_far ?_ NB230_238.out _; (with_reducible repeat (first | apply bN | apply bD | apply bA)); refine blk_far ?_ NB230_238.out _; (with_reducible repeat (first | apply bN | apply bD | apply bA)); refine blk_far ?_ NB230_238.out _; (with_reducible repeat (first | apply bN | apply bD | apply bA)); exact BK230.out))⟩; have n7_ : Aside0 (w65.heap[gb231]? = some (.cells #[.int .i64 t225, .int .i64 t226, .slice Ao48 t227.length co48] 24 (0, 0))) := ⟨(by rw [hw]; exact (by (with_reducible repeat (first | apply bN | apply bD | apply bA)); refine blk_far ?_ NB231_238.out _; (with_reducible repeat (first | apply bN | apply bD | apply bA)); refine blk_far ?_ NB231_238.out _; (with_reducible repeat (first | apply bN | apply bD | apply bA)); refine blk_far ?_ NB231_238.out _; (with_reducible repeat (first | apply bN | apply bD | apply bA)); exact BK231.out))⟩; have n8_ : Aside0 (w65.heap[gb238]? = some (.cells #[.int .i64 t232, .int .i64 t233, .slice Ao64 t234.length co64] 24 (0, 0))) := ⟨(by rw [hw]; exact (by (with_reducible repeat (first | apply bN | apply bD | apply bA)); refine blk_put (cs := #[.int .i64 t232, .int .i64 t233, .slice none 0 0]) ?_ 2 _ rfl; (with_reducible repeat (first | apply bN | apply bD | apply bA)); refine blk_put (cs := #[.int .i64 t232, .int .i64 0, .slice none 0 0]) ?_ 1 _ rfl; (with_reducible repeat (first | apply bN | apply bD | apply bA)); refine blk_put (cs := #[.int .i64 0, .int .i64 0, .slice none 0 0]) ?_ 0 _ rfl; (with_reducible repeat (first | apply bN | apply bD | apply bA)); exact BK238.out))⟩; have n9_ : Aside0 (Below w.heap.size w w65) := ⟨(by rw [hw]; exact (by repeat (first | (with_reducible first | exact HB.out | apply below_alloc | apply pw_below_drewN | apply below_drew1 | refine below_set ?_ GE212.out | refine below_set ?_ GE213.out | refine below_set ?_ GE230.out | refine below_set ?_ GE231.out | refine below_set ?_ GE238.out) | exact HB.out)))⟩; clear hw; clear HO_9; clear HO224; clear HO229; clear HO236; clear BK212; clear BK213; clear BK230; clear BK231; clear BK238; clear HB; have HO_9 := n0_; have HO224 := n1_; have HO229 := n2_; have HO236 := n3_; have BK212 := n4_; have BK213 := n5_; have BK230 := n6_; have BK231 := n7_; have BK238 := n8_; have HB := n9_; clear n0_ n1_ n2_ n3_ n4_ n5_ n6_ n7_ n8_ n9_; have hnb66 := NB212_213.out; have hnc66 := NB213_212.out; have hcz67_0 : w65.cell? ⟨gb212, 0, none⟩ = some (.int .i64 a0_0) := (blk_cell BK212.out 0).trans rfl; have hcz67_1 : w65.cell? ⟨gb212, 1, none⟩ = some (.int .i64 a0_1) := (blk_cell BK212.out 1).trans rfl; have hcz67_2 : w65.cell? ⟨gb212, 2, none⟩ = some (.slice A0_2 l0_2.length c0_2) := (blk_cell BK212.out 2).trans rfl; have hfz67_0 := blk_frozen BK212.out 0; have hfz67_1 := blk_frozen BK212.out 1; have hfz67_2 := blk_frozen BK212.out 2; have hcz68_0 : w65.cell? ⟨gb213, 0, none⟩ = some (.int .i64 a1_0) := (blk_cell BK213.out 0).trans rfl; have hcz68_1 : w65.cell? ⟨gb213, 1, none⟩ = some (.int .i64 a1_1) := (blk_cell BK213.out 1).trans rfl; have hcz68_2 : w65.cell? ⟨gb213, 2, none⟩ = some (.slice A1_2 l1_2.length c1_2) := (blk_cell BK213.out 2).trans rfl; have hfz68_0 := blk_frozen BK213.out 0; have hfz68_1 := blk_frozen BK213.out 1; have hfz68_2 := blk_frozen BK213.out 2) | ((with_reducible refine gate_callee (f := 20) rfl ?_); refine goesL_ (some 77) rfl rfl Try.func20 (by kernel_rfl) rfl #[.agg #[.int .i64 a0_0, .int .i64 a0_1, .slice A0_2 l0_2.length c0_2], .agg #[.int .i64 a1_0, .int .i64 a1_1, .slice A1_2 l1_2.length c1_2]] rfl (by (try simp only [List.map_toArray, List.map_cons, List.map_nil]); first | done | rfl | (simp only [List.length_drop, List.length_take]; rfl)) ?_; (with_reducible refine (meterref18_Keep.calls k2 a0_0 a0_1 (fun k_ => k_ < w.heap.size) _ _ l0_2 a1_0 a1_1 (fun k_ => k_ < w.heap.size) _ _ l1_2 t239 t240 t241 t244 _ ?side1 ?side2 A30.out).mono ?_); (case side1 => exact Kd.V_mk HC0_2.out (Kd.F_below (Kd.C_F (Kd.heap_int .i64) HR0_2.out) (by repeat (first | (with_reducible first | exact HB.out | apply below_alloc | apply pw_below_drewN | apply below_drew1 | refine below_set ?_ GE212.out | refine below_set ?_ GE213.out | refine below_set ?_ GE230.out | refine below_set ?_ GE231.out | refine below_set ?_ GE238.out) | exact HB.out)))); (case side2 => exact Kd.V_mk HC1_2.out (Kd.F_below (Kd.C_F (Kd.heap_int .i64) HR1_2.out) (by repeat (first | (with_reducible first | exact HB.out | apply below_alloc | apply pw_below_drewN | apply below_drew1 | refine below_set ?_ GE212.out | refine below_set ?_ GE213.out | refine below_set ?_ GE230.out | refine below_set ?_ GE231.out | refine below_set ?_ GE238.out) | exact HB.out)))); rintro e w69 ⟨v242, rfl, ho0, hb⟩; refine ⟨_, rfl, ?_⟩; have n0_ := qM (Kd.R_below (by (with_reducible repeat (first | apply Kd.R_alloc | apply Kd.R_drewN | apply Kd.R_drew)); exact HO_9.out) hb); have n1_ := qM (Kd.R_below (by (with_reducible repeat (first | apply Kd.R_alloc | apply Kd.R_drewN | apply Kd.R_drew)); exact HO224.out) hb); have n2_ := qM (Kd.R_below (by (with_reducible repeat (first | apply Kd.R_alloc | apply Kd.R_drewN | apply Kd.R_drew)); exact HO229.out) hb); have n3_ := qM (Kd.R_below (by (with_reducible repeat (first | apply Kd.R_alloc | apply Kd.R_drewN | apply Kd.R_drew)); exact HO236.out) hb); have n4_ := qM (Kd.V_lower (Kd.V_mono (ok' := fun k_ => some k_ ≠ (u9 : Value).ownBlock ∧ some k_ ≠ (.slice Ao44 t222.length co44 : Value).ownBlock ∧ some k_ ≠ (.slice Ao48 t227.length co48 : Value).ownBlock ∧ some k_ ≠ (.slice Ao64 t234.length co64 : Value).ownBlock ∧ k_ ≠ gb212 ∧ k_ ≠ gb213 ∧ k_ ≠ gb230 ∧ k_ ≠ gb231 ∧ k_ ≠ gb238) ho0 (fun k_ hk_ => ⟨Or.elim hk_ (fun hs_ => Or.elim hs_ (fun hs_ => fun e_ => Nat.not_le.2 hs_ (Kd.R_base HO_9.out k_ e_.symm)) (fun hs_ => fun e_ => Nat.not_le.2 hs_ (Kd.R_base HO_9.out k_ e_.symm))) (fun hn_ => (Kd.fresh' (Kd.R_lt (by (with_reducible repeat (first | apply Kd.R_alloc | apply Kd.R_drewN | apply Kd.R_drew)); exact HO_9.out)) k_ hn_)), Or.elim hk_ (fun hs_ => Or.elim hs_ (fun hs_ => fun e_ => Nat.not_le.2 hs_ (Kd.R_base HO224.out k_ e_.symm)) (fun hs_ => fun e_ => Nat.not_le.2 hs_ (Kd.R_base HO224.out k_ e_.symm))) (fun hn_ => (Kd.fresh' (Kd.R_lt (by (with_reducible repeat (first | apply Kd.R_alloc | apply Kd.R_drewN | apply Kd.R_drew)); exact HO224.out)) k_ hn_)), Or.elim hk_ (fun hs_ => Or.elim hs_ (fun hs_ => fun e_ => Nat.not_le.2 hs_ (Kd.R_base HO229.out k_ e_.symm)) (fun hs_ => fun e_ => Nat.not_le.2 hs_ (Kd.R_base HO229.out k_ e_.symm))) (fun hn_ => (Kd.fresh' (Kd.R_lt (by (with_reducible repeat (first | apply Kd.R_alloc | apply Kd.R_drewN | apply Kd.R_drew)); exact HO229.out)) k_ hn_)), Or.elim hk_ (fun hs_ => Or.elim hs_ (fun hs_ => fun e_ => Nat.not_le.2 hs_ (Kd.R_base HO236.out k_ e_.symm)) (fun hs_ => fun e_ => Nat.not_le.2 hs_ (Kd.R_base HO236.out k_ e_.symm))) (fun hn_ => (Kd.fresh' (Kd.R_lt (by (with_reducible repeat (first | apply Kd.R_alloc | apply Kd.R_drewN | apply Kd.R_drew)); exact HO236.out)) k_ hn_)), Or.elim hk_ (fun hs_ => Or.elim hs_ (fun hs_ => fun e_ => Nat.not_le.2 hs_ (by rw [e_]; exact GW212.out)) (fun hs_ => fun e_ => Nat.not_le.2 hs_ (by rw [e_]; exact GW212.out))) (fun hn_ => (Kd.freshB (g := gb212) (o := .cells #[.int .i64 a0_0, .int .i64 a0_1, .slice A0_2 l0_2.length c0_2] 24 (0, 0)) (by (with_reducible repeat (first | apply bN | apply bD | apply bA)); exact BK212.out) k_ hn_)), Or.elim hk_ (fun hs_ => Or.elim hs_ (fun hs_ => fun e_ => Nat.not_le.2 hs_ (by rw [e_]; exact GW213.out)) (fun hs_ => fun e_ => Nat.not_le.2 hs_ (by rw [e_]; exact GW213.out))) (fun hn_ => (Kd.freshB (g := gb213) (o := .cells #[.int .i64 a1_0, .int .i64 a1_1, .slice A1_2 l1_2.length c1_2] 24 (0, 0)) (by (with_reducible repeat (first | apply bN | apply bD | apply bA)); exact BK213.out) k_ hn_)), Or.elim hk_ (fun hs_ => Or.elim hs_ (fun hs_ => fun e_ => Nat.not_le.2 hs_ (by rw [e_]; exact GW230.out)) (fun hs_ => fun e_ => Nat.not_le.2 hs_ (by rw [e_]; exact GW230.out))) (fun hn_ => (Kd.freshB (g := gb230) (o := .cells #[.int .i64 t220, .int .i64 t221, .slice Ao44 t222.length co44] 24 (0, 0)) (by (with_reducible repeat (first | apply bN | apply bD | apply bA)); exact BK230.out) k_ hn_)), Or.elim hk_ (fun hs_ => Or.elim hs_ (fun hs_ => fun e_ => Nat.not_le.2 hs_ (by rw [e_]; exact GW231.out)) (fun hs_ => fun e_ => Nat.not_le.2 hs_ (by rw [e_]; exact GW231.out))) (fun hn_ => (Kd.freshB (g := gb231) (o := .cells #[.int .i64 t225, .int .i64 t226, .slice Ao48 t227.length co48] 24 (0, 0)) (by (with_reducible repeat (first | apply bN | apply bD | apply bA)); exact BK231.out) k_ hn_)), Or.elim hk_ (fun hs_ => Or.elim hs_ (fun hs_ => fun e_ => Nat.not_le.2 hs_ (by rw [e_]; exact GW238.out)) (fun hs_ => fun e_ => Nat.not_le.2 hs_ (by rw [e_]; exact GW238.out))) (fun hn_ => (Kd.freshB (g := gb238) (o := .cells #[.int .i64 t232, .int .i64 t233, .slice Ao64 t234.length co64] 24 (0, 0)) (by (with_reducible repeat (first | apply bN | apply bD | apply bA)); exact BK238.out) k_ hn_))⟩)) (below_size (by repeat (first | (with_reducible first | exact HB.out | apply below_alloc | apply pw_below_drewN | apply below_drew1 | refine below_set ?_ GE212.out | refine below_set ?_ GE213.out | refine below_set ?_ GE230.out | refine below_set ?_ GE231.out | refine below_set ?_ GE238.out) | exact HB.out)))); have n5_ := qM (blk_below (g := gb212) (o := .cells #[.int .i64 a0_0, .int .i64 a0_1, .slice A0_2 l0_2.length c0_2] 24 (0, 0)) (by (with_reducible repeat (first | apply bN | apply bD | apply bA)); exact BK212.out) hb); have n6_ := qM (blk_below (g := gb213) (o := .cells #[.int .i64 a1_0, .int .i64 a1_1, .slice A1_2 l1_2.length c1_2] 24 (0, 0)) (by (with_reducible repeat (first | apply bN | apply bD | apply bA)); exact BK213.out) hb); have n7_ := qM (blk_below (g := gb230) (o := .cells #[.int .i64 t220, .int .i64 t221, .slice Ao44 t222.length co44] 24 (0, 0)) (by (with_reducible repeat (first | apply bN | apply bD | apply bA)); exact BK230.out) hb); have n8_ := qM (blk_below (g := gb231) (o := .cells #[.int .i64 t225, .int .i64 t226, .slice Ao48 t227.length co48] 24 (0, 0)) (by (with_reducible repeat (first | apply bN | apply bD | apply bA)); exact BK231.out) hb); have n9_ := qM (blk_below (g := gb238) (o := .cells #[.int .i64 t232, .int .i64 t233, .slice Ao64 t234.length co64] 24 (0, 0)) (by (with_reducible repeat (first | apply bN | apply bD | apply bA)); exact BK238.out) hb); have n10_ := qM (below_step (by repeat (first | (with_reducible first | exact HB.out | apply below_alloc | apply pw_below_drewN | apply below_drew1 | refine below_set ?_ GE212.out | refine below_set ?_ GE213.out | refine below_set ?_ GE230.out | refine below_set ?_ GE231.out | refine below_set ?_ GE238.out) | exact HB.out)) hb); clear HO_9; clear HO224; clear HO229; clear HO236; clear BK212; clear BK213; clear BK230; clear BK231; clear BK238; clear HB; have HO_9 := n0_; have HO224 := n1_; have HO229 := n2_; have HO236 := n3_; have HO243 := n4_; have BK212 := n5_; have BK213 := n6_; have BK230 := n7_; have BK231 := n8_; have BK238 := n9_; have HB := n10_; clear n0_ n1_ n2_ n3_ n4_ n5_ n6_ n7_ n8_ n9_ n10_; (try clear hb); (try clear hb2); (try clear hk); (try clear hi); (try clear ho0)) | ((with_reducible refine gate_dst (N := 15) rfl ?_); (try (refine gate_guard (by rfl) ?_; dsimp only)); refine box_event ?hg (N := 15) ?hd (cs := #[.int .i64 0, .int .i64 0, .slice none 0 0]) (t := 24) ?hr ?_; (case hd => rfl); (case hg => rfl); (case hr => first | (go_simp; done) | (go_simp; rfl)); intro gb245 hg w70 hbox hb; have n0_ := qM (Kd.R_below (by (with_reducible repeat (first | apply Kd.R_alloc | apply Kd.R_drewN | apply Kd.R_drew)); exact HO_9.out) hb); have n1_ := qM (Kd.R_below (by (with_reducible repeat (first | apply Kd.R_alloc | apply Kd.R_drewN | apply Kd.R_drew)); exact HO224.out) hb); have n2_ := qM (Kd.R_below (by (with_reducible repeat (first | apply Kd.R_alloc | apply Kd.R_drewN | apply Kd.R_drew)); exact HO229.out) hb); have n3_ := qM (Kd.R_below (by (with_reducible repeat (first | apply Kd.R_alloc | apply Kd.R_drewN | apply Kd.R_drew)); exact HO236.out) hb); have n4_ := qM (Kd.V_below (Kd.V_elderB (by (with_reducible repeat (first | apply Kd.V_alloc | apply Kd.V_drewN | apply Kd.V_drew)); exact HO243.out) gb245 (Nat.le_of_eq hg.symm)) hb); have n5_ := qM (blk_below (g := gb212) (o := .cells #[.int .i64 a0_0, .int .i64 a0_1, .slice A0_2 l0_2.length c0_2] 24 (0, 0)) (by (with_reducible repeat (first | apply bN | apply bD | apply bA)); exact BK212.out) hb); have n6_ := qM (blk_below (g := gb213) (o := .cells #[.int .i64 a1_0, .int .i64 a1_1, .slice A1_2 l1_2.length c1_2] 24 (0, 0)) (by (with_reducible repeat (first | apply bN | apply bD | apply bA)); exact BK213.out) hb); have n7_ := qM (blk_below (g := gb230) (o := .cells #[.int .i64 t220, .int .i64 t221, .slice Ao44 t222.length co44] 24 (0, 0)) (by (with_reducible repeat (first | apply bN | apply bD | apply bA)); exact BK230.out) hb); have n8_ := qM (blk_below (g := gb231) (o := .cells #[.int .i64 t225, .int .i64 t226, .slice Ao48 t227.length co48] 24 (0, 0)) (by (with_reducible repeat (first | apply bN | apply bD | apply bA)); exact BK231.out) hb); have n9_ := qM (blk_below (g := gb238) (o := .cells #[.int .i64 t232, .int .i64 t233, .slice Ao64 t234.length co64] 24 (0, 0)) (by (with_reducible repeat (first | apply bN | apply bD | apply bA)); exact BK238.out) hb); have n10_ := qM (below_step (by repeat (first | (with_reducible first | exact HB.out | apply below_alloc | apply pw_below_drewN | apply below_drew1 | refine below_set ?_ GE212.out | refine below_set ?_ GE213.out | refine below_set ?_ GE230.out | refine below_set ?_ GE231.out | refine below_set ?_ GE238.out) | exact HB.out)) hb); have n11_ := qM (hbox); have n12_ := qM ((by rw [hg]; exact (below_size (by repeat (first | (with_reducible first | exact HB.out | apply below_alloc | apply pw_below_drewN | apply below_drew1 | refine below_set ?_ GE212.out | refine below_set ?_ GE213.out | refine below_set ?_ GE230.out | refine below_set ?_ GE231.out | refine below_set ?_ GE238.out) | exact HB.out))) : w.heap.size ≤ gb245)); have n13_ := qM ((by rw [hg]; exact (below_size (by repeat (first | (with_reducible first | exact HB.out | apply below_alloc | apply pw_below_drewN | apply below_drew1 | refine below_set ?_ GE212.out | refine below_set ?_ GE213.out | refine below_set ?_ GE230.out | refine below_set ?_ GE231.out | refine below_set ?_ GE238.out) | exact HB.out))) : w.heap.size ≤ gb245)); have n14_ := qM ((by rw [hg]; exact Nat.ne_of_lt (blk_lt (g := gb212) (o := .cells #[.int .i64 a0_0, .int .i64 a0_1, .slice A0_2 l0_2.length c0_2] 24 (0, 0)) (by (with_reducible repeat (first | apply bN | apply bD | apply bA)); exact BK212.out)) : gb212 ≠ gb245)); have n15_ := qM ((by rw [hg]; exact Nat.ne_of_gt (blk_lt (g := gb212) (o := .cells #[.int .i64 a0_0, .int .i64 a0_1, .slice A0_2 l0_2.length c0_2] 24 (0, 0)) (by (with_reducible repeat (first | apply bN | apply bD | apply bA)); exact BK212.out)) : gb245 ≠ gb212)); have n16_ := qM ((by rw [hg]; exact Nat.ne_of_lt (blk_lt (g := gb213) (o := .cells #[.int .i64 a1_0, .int .i64 a1_1, .slice A1_2 l1_2.length c1_2] 24 (0, 0)) (by (with_reducible repeat (first | apply bN | apply bD | apply bA)); exact BK213.out)) : gb213 ≠ gb245)); have n17_ := qM ((by rw [hg]; exact Nat.ne_of_gt (blk_lt (g := gb213) (o := .cells #[.int .i64 a1_0, .int .i64 a1_1, .slice A1_2 l1_2.length c1_2] 24 (0, 0)) (by (with_reducible repeat (first | apply bN | apply bD | apply bA)); exact BK213.out)) : gb245 ≠ gb213)); have n18_ := qM ((by rw [hg]; exact Nat.ne_of_lt (blk_lt (g := gb230) (o := .cells #[.int .i64 t220, .int .i64 t221, .slice Ao44 t222.length co44] 24 (0, 0)) (by (with_reducible repeat (first | apply bN | apply bD | apply bA)); exact BK230.out)) : gb230 ≠ gb245)); have n19_ := qM ((by rw [hg]; exact Nat.ne_of_gt (blk_lt (g := gb230) (o := .cells #[.int .i64 t220, .int .i64 t221, .slice Ao44 t222.length co44] 24 (0, 0)) (by (with_reducible repeat (first | apply bN | apply bD | apply bA)); exact BK230.out)) : gb245 ≠ gb230)); have n20_ := qM ((by rw [hg]; exact Nat.ne_of_lt (blk_lt (g := gb231) (o := .cells #[.int .i64 t225, .int .i64 t226, .slice Ao48 t227.length co48] 24 (0, 0)) (by (with_reducible repeat (first | apply bN | apply bD | apply bA)); exact BK231.out)) : gb231 ≠ gb245)); have n21_ := qM ((by rw [hg]; exact Nat.ne_of_gt (blk_lt (g := gb231) (o := .cells #[.int .i64 t225, .int .i64 t226, .slice Ao48 t227.length co48] 24 (0, 0)) (by (with_reducible repeat (first | apply bN | apply bD | apply bA)); exact BK231.out)) : gb245 ≠ gb231)); have n22_ := qM ((by rw [hg]; exact Nat.ne_of_lt (blk_lt (g := gb238) (o := .cells #[.int .i64 t232, .int .i64 t233, .slice Ao64 t234.length co64] 24 (0, 0)) (by (with_reducible repeat (first | apply bN | apply bD | apply bA)); exact BK238.out)) : gb238 ≠ gb245)); have n23_ := qM ((by rw [hg]; exact Nat.ne_of_gt (blk_lt (g := gb238) (o := .cells #[.int .i64 t232, .int .i64 t233, .slice Ao64 t234.length co64] 24 (0, 0)) (by (with_reducible repeat (first | apply bN | apply bD | apply bA)); exact BK238.out)) : gb245 ≠ gb238)); clear HO_9; clear HO224; clear HO229; clear HO236; clear HO243; clear BK212; clear BK213; clear BK230; clear BK231; clear BK238; clear HB; have HO_9 := n0_; have HO224 := n1_; have HO229 := n2_; have HO236 := n3_; have HO243 := n4_; have BK212 := n5_; have BK213 := n6_; have BK230 := n7_; have BK231 := n8_; have BK238 := n9_; have HB := n10_; have BK245 := n11_; have GW245 := n12_; have GE245 := n13_; have NB212_245 := n14_; have NB245_212 := n15_; have NB213_245 := n16_; have NB245_213 := n17_; have NB230_245 := n18_; have NB245_230 := n19_; have NB231_245 := n20_; have NB245_231 := n21_; have NB238_245 := n22_; have NB245_238 := n23_; clear n0_ n1_ n2_ n3_ n4_ n5_ n6_ n7_ n8_ n9_ n10_ n11_ n12_ n13_ n14_ n15_ n16_ n17_ n18_ n19_ n20_ n21_ n22_ n23_; clear hb hbox hg; have hnb71 := NB245_212.out; have hnc71 := NB212_245.out; have hnb72 := NB245_213.out; have hnc72 := NB213_245.out; have hnb73 := NB245_230.out; have hnc73 := NB230_245.out; have hnb74 := NB245_231.out; have hnc74 := NB231_245.out; have hnb75 := NB245_238.out; have hnc75 := NB238_245.out; have hcz76_0 : w70.cell? ⟨gb245, 0, none⟩ = some (.int .i64 0) := (blk_cell BK245.out 0).trans rfl; have hcz76_1 : w70.cell? ⟨gb245, 1, none⟩ = some (.int .i64 0) := (blk_cell BK245.out 1).trans rfl; have hcz76_2 : w70.cell? ⟨gb245, 2, none⟩ = some (.slice none 0 0) := (blk_cell BK245.out 2).trans rfl; have hfz76_0 := blk_frozen BK245.out 0; have hfz76_1 := blk_frozen BK245.out 1; have hfz76_2 := blk_frozen BK245.out 2; obtain ⟨Ao77, co77, eo77⟩ := Kd.V_slice HO243.out; subst eo77; have hcz78_0 : w70.cell? ⟨gb230, 0, none⟩ = some (.int .i64 t220) := (blk_cell BK230.out 0).trans rfl; have hcz78_1 : w70.cell? ⟨gb230, 1, none⟩ = some (.int .i64 t221) := (blk_cell BK230.out 1).trans rfl; have hcz78_2 : w70.cell? ⟨gb230, 2, none⟩ = some (.slice Ao44 t222.length co44) := (blk_cell BK230.out 2).trans rfl; have hfz78_0 := blk_frozen BK230.out 0; have hfz78_1 := blk_frozen BK230.out 1; have hfz78_2 := blk_frozen BK230.out 2; have hcz79_0 : w70.cell? ⟨gb231, 0, none⟩ = some (.int .i64 t225) := (blk_cell BK231.out 0).trans rfl; have hcz79_1 : w70.cell? ⟨gb231, 1, none⟩ = some (.int .i64 t226) := (blk_cell BK231.out 1).trans rfl; have hcz79_2 : w70.cell? ⟨gb231, 2, none⟩ = some (.slice Ao48 t227.length co48) := (blk_cell BK231.out 2).trans rfl; have hfz79_0 := blk_frozen BK231.out 0; have hfz79_1 := blk_frozen BK231.out 1; have hfz79_2 := blk_frozen BK231.out 2) | ((with_reducible refine gate_callee (f := 15) rfl ?_); refine goesL_ (some 83) rfl rfl Try.func15 (by kernel_rfl) rfl #[.agg #[.int .i64 t220, .int .i64 t221, .slice Ao44 t222.length co44], .agg #[.int .i64 t225, .int .i64 t226, .slice Ao48 t227.length co48]] rfl (by (try simp only [List.map_toArray, List.map_cons, List.map_nil]); first | done | rfl | (simp only [List.length_drop, List.length_take]; rfl)) ?_; (with_reducible refine (spread_Diff.calls k2 t220 t221 _ _ t222 t225 t226 _ _ t227 t246 t249 _ ?side1 ?side2 ?side3 ?side4 A31.out).mono ?_); (case side1 => refine (Kd.R_reads' (e := 3) (base := w.heap.size) (ok := fun k_ => (some k_ ≠ (.slice Ao48 t227.length co48 : Value).ownBlock ∧ some k_ ≠ (.slice Ao64 t234.length co64 : Value).ownBlock)) (n := t222.length) (c := co44) ?_).2.2; exact (by (with_reducible repeat (first | apply Kd.R_alloc | apply Kd.R_drewN | apply Kd.R_drew)); exact (Kd.R_mono (Kd.R_far (p := ⟨gb245, 2, none⟩) (Kd.R_far (p := ⟨gb245, 1, none⟩) (Kd.R_far (p := ⟨gb245, 0, none⟩) (Kd.R_types HO224.out BK245.out (by decide)) (fun _ hk => hk.2) (.int .i64 t239)) (fun _ hk => hk.2) (.int .i64 t240)) (fun _ hk => hk.2) (.slice Ao77 t241.length co77)) (fun _ h_ => h_.1)))); (case side2 => exact (Kd.R_reads' HO224.out).2.1); (case side3 => refine (Kd.R_reads' (e := 3) (base := w.heap.size) (ok := fun k_ => (some k_ ≠ (.slice Ao44 t222.length co44 : Value).ownBlock ∧ some k_ ≠ (.slice Ao64 t234.length co64 : Value).ownBlock)) (n := t227.length) (c := co48) ?_).2.2; exact (by (with_reducible repeat (first | apply Kd.R_alloc | apply Kd.R_drewN | apply Kd.R_drew)); exact (Kd.R_mono (Kd.R_far (p := ⟨gb245, 2, none⟩) (Kd.R_far (p := ⟨gb245, 1, none⟩) (Kd.R_far (p := ⟨gb245, 0, none⟩) (Kd.R_types HO229.out BK245.out (by decide)) (fun _ hk => hk.2) (.int .i64 t239)) (fun _ hk => hk.2) (.int .i64 t240)) (fun _ hk => hk.2) (.slice Ao77 t241.length co77)) (fun _ h_ => h_.1)))); (case side4 => exact (Kd.R_reads' HO229.out).2.1); rintro e w80 ⟨v247, rfl, ho0, hb⟩; refine ⟨_, rfl, ?_⟩; have n0_ := qM (Kd.R_below (by (with_reducible repeat (first | apply Kd.R_alloc | apply Kd.R_drewN | apply Kd.R_drew)); exact (Kd.R_mono (Kd.R_far (p := ⟨gb245, 2, none⟩) (Kd.R_far (p := ⟨gb245, 1, none⟩) (Kd.R_far (p := ⟨gb245, 0, none⟩) (Kd.R_types HO_9.out BK245.out (by decide)) (fun _ hk => hk.2) (.int .i64 t239)) (fun _ hk => hk.2) (.int .i64 t240)) (fun _ hk => hk.2) (.slice Ao77 t241.length co77)) (fun _ h_ => h_.1))) hb); have n1_ := qM (Kd.R_below (by (with_reducible repeat (first | apply Kd.R_alloc | apply Kd.R_drewN | apply Kd.R_drew)); exact (Kd.R_mono (Kd.R_far (p := ⟨gb245, 2, none⟩) (Kd.R_far (p := ⟨gb245, 1, none⟩) (Kd.R_far (p := ⟨gb245, 0, none⟩) (Kd.R_types HO224.out BK245.out (by decide)) (fun _ hk => hk.2) (.int .i64 t239)) (fun _ hk => hk.2) (.int .i64 t240)) (fun _ hk => hk.2) (.slice Ao77 t241.length co77)) (fun _ h_ => h_.1))) hb); have n2_ := qM (Kd.R_below (by (with_reducible repeat (first | apply Kd.R_alloc | apply Kd.R_drewN | apply Kd.R_drew)); exact (Kd.R_mono (Kd.R_far (p := ⟨gb245, 2, none⟩) (Kd.R_far (p := ⟨gb245, 1, none⟩) (Kd.R_far (p := ⟨gb245, 0, none⟩) (Kd.R_types HO229.out BK245.out (by decide)) (fun _ hk => hk.2) (.int .i64 t239)) (fun _ hk => hk.2) (.int .i64 t240)) (fun _ hk => hk.2) (.slice Ao77 t241.length co77)) (fun _ h_ => h_.1))) hb); have n3_ := qM (Kd.R_below (by (with_reducible repeat (first | apply Kd.R_alloc | apply Kd.R_drewN | apply Kd.R_drew)); exact (Kd.R_mono (Kd.R_far (p := ⟨gb245, 2, none⟩) (Kd.R_far (p := ⟨gb245, 1, none⟩) (Kd.R_far (p := ⟨gb245, 0, none⟩) (Kd.R_types HO236.out BK245.out (by decide)) (fun _ hk => hk.2) (.int .i64 t239)) (fun _ hk => hk.2) (.int .i64 t240)) (fun _ hk => hk.2) (.slice Ao77 t241.length co77)) (fun _ h_ => h_.1))) hb); have n4_ := qM (Kd.V_elder' (by (with_reducible repeat (first | apply Kd.V_alloc | apply Kd.V_drewN | apply Kd.V_drew)); exact (Kd.V_mono (Kd.V_far (p := ⟨gb245, 2, none⟩) (Kd.V_far (p := ⟨gb245, 1, none⟩) (Kd.V_far (p := ⟨gb245, 0, none⟩) (Kd.V_mono HO243.out (fun k_ hk => (⟨hk, hk.2⟩ : _ ∧ k_ ≠ gb245))) (fun _ hk => hk.2) (.int .i64 t239)) (fun _ hk => hk.2) (.int .i64 t240)) (fun _ hk => hk.2) (.slice Ao77 t241.length co77)) (fun _ h_ => h_.1))) (Kd.R_base ho0) hb); have n5_ := qM (Kd.R_lower ho0 (below_size (by repeat (first | (with_reducible first | exact HB.out | apply below_alloc | apply pw_below_drewN | apply below_drew1 | refine below_set ?_ GE212.out | refine below_set ?_ GE213.out | refine below_set ?_ GE230.out | refine below_set ?_ GE231.out | refine below_set ?_ GE238.out | refine below_set ?_ GE245.out) | exact HB.out)))); have n6_ := qM (blk_below (g := gb212) (o := .cells #[.int .i64 a0_0, .int .i64 a0_1, .slice A0_2 l0_2.length c0_2] 24 (0, 0)) (by (with_reducible repeat (first | apply bN | apply bD | apply bA)); refine blk_far ?_ NB212_245.out _; (with_reducible repeat (first | apply bN | apply bD | apply bA)); refine blk_far ?_ NB212_245.out _; (with_reducible repeat (first | apply bN | apply bD | apply bA)); refine blk_far ?_ NB212_245.out _; (with_reducible repeat (first | apply bN | apply bD | apply bA)); exact BK212.out) hb); have n7_ := qM (blk_below (g := gb213) (o := .cells #[.int .i64 a1_0, .int .i64 a1_1, .slice A1_2 l1_2.length c1_2] 24 (0, 0)) (by (with_reducible repeat (first | apply bN | apply bD | apply bA)); refine blk_far ?_ NB213_245.out _; (with_reducible repeat (first | apply bN | apply bD | apply bA)); refine blk_far ?_ NB213_245.out _; (with_reducible repeat (first | apply bN | apply bD | apply bA)); refine blk_far ?_ NB213_245.out _; (with_reducible repeat (first | apply bN | apply bD | apply bA)); exact BK213.out) hb); have n8_ := qM (blk_below (g := gb230) (o := .cells #[.int .i64 t220, .int .i64 t221, .slice Ao44 t222.length co44] 24 (0, 0)) (by (with_reducible repeat (first | apply bN | apply bD | apply bA)); refine blk_far ?_ NB230_245.out _; (with_reducible repeat (first | apply bN | apply bD | apply bA)); refine blk_far ?_ NB230_245.out _; (with_reducible repeat (first | apply bN | apply bD | apply bA)); refine blk_far ?_ NB230_245.out _; (with_reducible repeat (first | apply bN | apply bD | apply bA)); exact BK230.out) hb); have n9_ := qM (blk_below (g := gb231) (o := .cells #[.int .i64 t225, .int .i64 t226, .slice Ao48 t227.length co48] 24 (0, 0)) (by (with_reducible repeat (first | apply bN | apply bD | apply bA)); refine blk_far ?_ NB231_245.out _; (with_reducible repeat (first | apply bN | apply bD | apply bA)); refine blk_far ?_ NB231_245.out _; (with_reducible repeat (first | apply bN | apply bD | apply bA)); refine blk_far ?_ NB231_245.out _; (with_reducible repeat (first | apply bN | apply bD | apply bA)); exact BK231.out) hb); have n10_ := qM (blk_below (g := gb238) (o := .cells #[.int .i64 t232, .int .i64 t233, .slice Ao64 t234.length co64] 24 (0, 0)) (by (with_reducible repeat (first | apply bN | apply bD | apply bA)); refine blk_far ?_ NB238_245.out _; (with_reducible repeat (first | apply bN | apply bD | apply bA)); refine blk_far ?_ NB238_245.out _; (with_reducible repeat (first | apply bN | apply bD | apply bA)); refine blk_far ?_ NB238_245.out _; (with_reducible repeat (first | apply bN | apply bD | apply bA)); exact BK238.out) hb); have n11_ := qM (blk_below (g := gb245) (o := .cells #[.int .i64 t239, .int .i64 t240, .slice Ao77 t241.length co77] 24 (0, 0)) (by (with_reducible repeat (first | apply bN | apply bD | apply bA)); refine blk_put (cs := #[.int .i64 t239, .int .i64 t240, .slice none 0 0]) ?_ 2 _ rfl; (with_reducible repeat (first | apply bN | apply bD | apply bA)); refine blk_put (cs := #[.int .i64 t239, .int .i64 0, .slice none 0 0]) ?_ 1 _ rfl; (with_reducible repeat (first | apply bN | apply bD | apply bA)); refine blk_put (cs := #[.int .i64 0, .int .i64 0, .slice none 0 0]) ?_ 0 _ rfl; (with_reducible repeat (first | apply bN | apply bD | apply bA)); exact BK245.out) hb); have n12_ := qM (below_step (by repeat (first | (with_reducible first | exact HB.out | apply below_alloc | apply pw_below_drewN | apply below_drew1 | refine below_set ?_ GE212.out | refine below_set ?_ GE213.out | refine below_set ?_ GE230.out | refine below_set ?_ GE231.out | refine below_set ?_ GE238.out | refine below_set ?_ GE245.out) | exact HB.out)) hb); clear HO_9; clear HO224; clear HO229; clear HO236; clear HO243; clear BK212; clear BK213; clear BK230; clear BK231; clear BK238; clear BK245; clear HB; have HO_9 := n0_; have HO224 := n1_; have HO229 := n2_; have HO236 := n3_; have HO243 := n4_; have HO248 := n5_; have BK212 := n6_; have BK213 := n7_; have BK230 := n8_; have BK231 := n9_; have BK238 := n10_; have BK245 := n11_; have HB := n12_; clear n0_ n1_ n2_ n3_ n4_ n5_ n6_ n7_ n8_ n9_ n10_ n11_ n12_; (try clear hb); (try clear hb2); (try clear hk); (try clear hi); (try clear ho0); have hcz81_0 : w80.cell? ⟨gb212, 0, none⟩ = some (.int .i64 a0_0) := (blk_cell BK212.out 0).trans rfl; have hcz81_1 : w80.cell? ⟨gb212, 1, none⟩ = some (.int .i64 a0_1) := (blk_cell BK212.out 1).trans rfl; have hcz81_2 : w80.cell? ⟨gb212, 2, none⟩ = some (.slice A0_2 l0_2.length c0_2) := (blk_cell BK212.out 2).trans rfl; have hfz81_0 := blk_frozen BK212.out 0; have hfz81_1 := blk_frozen BK212.out 1; have hfz81_2 := blk_frozen BK212.out 2; have hcz82_0 : w80.cell? ⟨gb213, 0, none⟩ = some (.int .i64 a1_0) := (blk_cell BK213.out 0).trans rfl; have hcz82_1 : w80.cell? ⟨gb213, 1, none⟩ = some (.int .i64 a1_1) := (blk_cell BK213.out 1).trans rfl; have hcz82_2 : w80.cell? ⟨gb213, 2, none⟩ = some (.slice A1_2 l1_2.length c1_2) := (blk_cell BK213.out 2).trans rfl; have hfz82_0 := blk_frozen BK213.out 0; have hfz82_1 := blk_frozen BK213.out 1; have hfz82_2 := blk_frozen BK213.out 2) | ((with_reducible refine gate_callee (f := 21) rfl ?_); refine goesL_ (some 89) rfl rfl Try.func21 (by kernel_rfl) rfl #[.agg #[.int .i64 a0_0, .int .i64 a0_1, .slice A0_2 l0_2.length c0_2], .agg #[.int .i64 a1_0, .int .i64 a1_1, .slice A1_2 l1_2.length c1_2]] rfl (by (try simp only [List.map_toArray, List.map_cons, List.map_nil]); first | done | rfl | (simp only [List.length_drop, List.length_take]; rfl)) ?_; (with_reducible refine (meterref18_Diff.calls k2 a0_0 a0_1 _ _ l0_2 a1_0 a1_1 _ _ l1_2 t250 t253 _ ?side1 ?side2 ?side3 ?side4 A32.out).mono ?_); (case side1 => repeat (first | exact (Kd.C_below HR0_2.out HB.out) | (with_reducible refine Kd.C_alloc ?_ _) | (with_reducible refine Kd.C_drewN ?_ _) | (with_reducible refine Kd.C_drew ?_))); (case side2 => exact HC0_2.out); (case side3 => repeat (first | exact (Kd.C_below HR1_2.out HB.out) | (with_reducible refine Kd.C_alloc ?_ _) | (with_reducible refine Kd.C_drewN ?_ _) | (with_reducible refine Kd.C_drew ?_))); (case side4 => exact HC1_2.out); rintro e w83 ⟨v251, rfl, ho0, hb⟩; refine ⟨_, rfl, ?_⟩; have n0_ := qM (Kd.R_elder' (by (with_reducible repeat (first | apply Kd.R_alloc | apply Kd.R_drewN | apply Kd.R_drew)); exact HO_9.out) (Kd.R_base ho0) hb); have n1_ := qM (Kd.R_below (by (with_reducible repeat (first | apply Kd.R_alloc | apply Kd.R_drewN | apply Kd.R_drew)); exact HO224.out) hb); have n2_ := qM (Kd.R_below (by (with_reducible repeat (first | apply Kd.R_alloc | apply Kd.R_drewN | apply Kd.R_drew)); exact HO229.out) hb); have n3_ := qM (Kd.R_below (by (with_reducible repeat (first | apply Kd.R_alloc | apply Kd.R_drewN | apply Kd.R_drew)); exact HO236.out) hb); have n4_ := qM (Kd.V_elder' (by (with_reducible repeat (first | apply Kd.V_alloc | apply Kd.V_drewN | apply Kd.V_drew)); exact HO243.out) (Kd.R_base ho0) hb); have n5_ := qM (Kd.R_below (by (with_reducible repeat (first | apply Kd.R_alloc | apply Kd.R_drewN | apply Kd.R_drew)); exact HO248.out) hb); have n6_ := qM (Kd.R_lower (Kd.R_new' ho0 (Kd.R_lt (by (with_reducible repeat (first | apply Kd.R_alloc | apply Kd.R_drewN | apply Kd.R_drew)); exact HO_9.out))) (below_size (by repeat (first | (with_reducible first | exact HB.out | apply below_alloc | apply pw_below_drewN | apply below_drew1 | refine below_set ?_ GE212.out | refine below_set ?_ GE213.out | refine below_set ?_ GE230.out | refine below_set ?_ GE231.out | refine below_set ?_ GE238.out | refine below_set ?_ GE245.out) | exact HB.out)))); have n7_ := qM (blk_below (g := gb212) (o := .cells #[.int .i64 a0_0, .int .i64 a0_1, .slice A0_2 l0_2.length c0_2] 24 (0, 0)) (by (with_reducible repeat (first | apply bN | apply bD | apply bA)); exact BK212.out) hb); have n8_ := qM (blk_below (g := gb213) (o := .cells #[.int .i64 a1_0, .int .i64 a1_1, .slice A1_2 l1_2.length c1_2] 24 (0, 0)) (by (with_reducible repeat (first | apply bN | apply bD | apply bA)); exact BK213.out) hb); have n9_ := qM (blk_below (g := gb230) (o := .cells #[.int .i64 t220, .int .i64 t221, .slice Ao44 t222.length co44] 24 (0, 0)) (by (with_reducible repeat (first | apply bN | apply bD | apply bA)); exact BK230.out) hb); have n10_ := qM (blk_below (g := gb231) (o := .cells #[.int .i64 t225, .int .i64 t226, .slice Ao48 t227.length co48] 24 (0, 0)) (by (with_reducible repeat (first | apply bN | apply bD | apply bA)); exact BK231.out) hb); have n11_ := qM (blk_below (g := gb238) (o := .cells #[.int .i64 t232, .int .i64 t233, .slice Ao64 t234.length co64] 24 (0, 0)) (by (with_reducible repeat (first | apply bN | apply bD | apply bA)); exact BK238.out) hb); have n12_ := qM (blk_below (g := gb245) (o := .cells #[.int .i64 t239, .int .i64 t240, .slice Ao77 t241.length co77] 24 (0, 0)) (by (with_reducible repeat (first | apply bN | apply bD | apply bA)); exact BK245.out) hb); have n13_ := qM (below_step (by repeat (first | (with_reducible first | exact HB.out | apply below_alloc | apply pw_below_drewN | apply below_drew1 | refine below_set ?_ GE212.out | refine below_set ?_ GE213.out | refine below_set ?_ GE230.out | refine below_set ?_ GE231.out | refine below_set ?_ GE238.out | refine below_set ?_ GE245.out) | exact HB.out)) hb); clear HO_9; clear HO224; clear HO229; clear HO236; clear HO243; clear HO248; clear BK212; clear BK213; clear BK230; clear BK231; clear BK238; clear BK245; clear HB; have HO_9 := n0_; have HO224 := n1_; have HO229 := n2_; have HO236 := n3_; have HO243 := n4_; have HO248 := n5_; have HO252 := n6_; have BK212 := n7_; have BK213 := n8_; have BK230 := n9_; have BK231 := n10_; have BK238 := n11_; have BK245 := n12_; have HB := n13_; clear n0_ n1_ n2_ n3_ n4_ n5_ n6_ n7_ n8_ n9_ n10_ n11_ n12_ n13_; (try clear hb); (try clear hb2); (try clear hk); (try clear hi); (try clear ho0); have hcz84_0 : w83.cell? ⟨gb230, 0, none⟩ = some (.int .i64 t220) := (blk_cell BK230.out 0).trans rfl; have hcz84_1 : w83.cell? ⟨gb230, 1, none⟩ = some (.int .i64 t221) := (blk_cell BK230.out 1).trans rfl; have hcz84_2 : w83.cell? ⟨gb230, 2, none⟩ = some (.slice Ao44 t222.length co44) := (blk_cell BK230.out 2).trans rfl; have hfz84_0 := blk_frozen BK230.out 0; have hfz84_1 := blk_frozen BK230.out 1; have hfz84_2 := blk_frozen BK230.out 2) | ((with_reducible refine gate_callee (f := 16) rfl ?_); refine goesL_ (some 96) rfl rfl Try.func16 (by kernel_rfl) rfl #[.agg #[.int .i64 t220, .int .i64 t221, .slice Ao44 t222.length co44], .int .i64 a2, .slice A3 l3.length c3] rfl (by (try simp only [List.map_toArray, List.map_cons, List.map_nil]); first | done | rfl | (simp only [List.length_drop, List.length_take]; rfl)) ?_; (with_reducible refine (spread_Patch.calls t220 t221 _ _ t222 a2 _ _ l3 t254 t255 t256 t259 _ ?side1 ?side2 ?side3 ?side4 A33.out).mono ?_); (case side1 => repeat (first | exact (Kd.R_reads' HO224.out).2.2 | (with_reducible refine Kd.C_alloc ?_ _) | (with_reducible refine Kd.C_drewN ?_ _) | (with_reducible refine Kd.C_drew ?_))); (case side2 => exact (Kd.R_reads' HO224.out).2.1); (case side3 => repeat (first | exact (Kd.C_below HR3.out HB.out) | (with_reducible refine Kd.C_alloc ?_ _) | (with_reducible refine Kd.C_drewN ?_ _) | (with_reducible refine Kd.C_drew ?_))); (case side4 => exact HC3.out); rintro e w85 ⟨v257, rfl, ho0, hb⟩; refine ⟨_, rfl, ?_⟩; have n0_ := qM (Kd.R_below (by (with_reducible repeat (first | apply Kd.R_alloc | apply Kd.R_drewN | apply Kd.R_drew)); exact HO_9.out) hb); have n1_ := qM (Kd.R_elder' (by (with_reducible repeat (first | apply Kd.R_alloc | apply Kd.R_drewN | apply Kd.R_drew)); exact HO224.out) (Kd.R_base ho0) hb); have n2_ := qM (Kd.R_elder' (by (with_reducible repeat (first | apply Kd.R_alloc | apply Kd.R_drewN | apply Kd.R_drew)); exact HO229.out) (Kd.R_base ho0) hb); have n3_ := qM (Kd.R_elder' (by (with_reducible repeat (first | apply Kd.R_alloc | apply Kd.R_drewN | apply Kd.R_drew)); exact HO236.out) (Kd.R_base ho0) hb); have n4_ := qM (Kd.V_elder' (by (with_reducible repeat (first | apply Kd.V_alloc | apply Kd.V_drewN | apply Kd.V_drew)); exact HO243.out) (Kd.R_base ho0) hb); have n5_ := qM (Kd.R_below (by (with_reducible repeat (first | apply Kd.R_alloc | apply Kd.R_drewN | apply Kd.R_drew)); exact HO248.out) hb); have n6_ := qM (Kd.R_below (by (with_reducible repeat (first | apply Kd.R_alloc | apply Kd.R_drewN | apply Kd.R_drew)); exact HO252.out) hb); have n7_ := qM (Kd.R_lower (Kd.R_new' (Kd.R_new' (Kd.R_new' ho0 (Kd.R_lt (by (with_reducible repeat (first | apply Kd.R_alloc | apply Kd.R_drewN | apply Kd.R_drew)); exact HO224.out))) (Kd.R_lt (by (with_reducible repeat (first | apply Kd.R_alloc | apply Kd.R_drewN | apply Kd.R_drew)); exact HO229.out))) (Kd.R_lt (by (with_reducible repeat (first | apply Kd.R_alloc | apply Kd.R_drewN | apply Kd.R_drew)); exact HO236.out))) (below_size (by repeat (first | (with_reducible first | exact HB.out | apply below_alloc | apply pw_below_drewN | apply below_drew1 | refine below_set ?_ GE212.out | refine below_set ?_ GE213.out | refine below_set ?_ GE230.out | refine below_set ?_ GE231.out | refine below_set ?_ GE238.out | refine below_set ?_ GE245.out) | exact HB.out)))); have n8_ := qM (blk_below (g := gb212) (o := .cells #[.int .i64 a0_0, .int .i64 a0_1, .slice A0_2 l0_2.length c0_2] 24 (0, 0)) (by (with_reducible repeat (first | apply bN | apply bD | apply bA)); exact BK212.out) hb); have n9_ := qM (blk_below (g := gb213) (o := .cells #[.int .i64 a1_0, .int .i64 a1_1, .slice A1_2 l1_2.length c1_2] 24 (0, 0)) (by (with_reducible repeat (first | apply bN | apply bD | apply bA)); exact BK213.out) hb); have n10_ := qM (blk_below (g := gb230) (o := .cells #[.int .i64 t220, .int .i64 t221, .slice Ao44 t222.length co44] 24 (0, 0)) (by (with_reducible repeat (first | apply bN | apply bD | apply bA)); exact BK230.out) hb); have n11_ := qM (blk_below (g := gb231) (o := .cells #[.int .i64 t225, .int .i64 t226, .slice Ao48 t227.length co48] 24 (0, 0)) (by (with_reducible repeat (first | apply bN | apply bD | apply bA)); exact BK231.out) hb); have n12_ := qM (blk_below (g := gb238) (o := .cells #[.int .i64 t232, .int .i64 t233, .slice Ao64 t234.length co64] 24 (0, 0)) (by (with_reducible repeat (first | apply bN | apply bD | apply bA)); exact BK238.out) hb); have n13_ := qM (blk_below (g := gb245) (o := .cells #[.int .i64 t239, .int .i64 t240, .slice Ao77 t241.length co77] 24 (0, 0)) (by (with_reducible repeat (first | apply bN | apply bD | apply bA)); exact BK245.out) hb); have n14_ := qM (below_step (by repeat (first | (with_reducible first | exact HB.out | apply below_alloc | apply pw_below_drewN | apply below_drew1 | refine below_set ?_ GE212.out | refine below_set ?_ GE213.out | refine below_set ?_ GE230.out | refine below_set ?_ GE231.out | refine below_set ?_ GE238.out | refine below_set ?_ GE245.out) | exact HB.out)) hb); clear HO_9; clear HO224; clear HO229; clear HO236; clear HO243; clear HO248; clear HO252; clear BK212; clear BK213; clear BK230; clear BK231; clear BK238; clear BK245; clear HB; have HO_9 := n0_; have HO224 := n1_; have HO229 := n2_; have HO236 := n3_; have HO243 := n4_; have HO248 := n5_; have HO252 := n6_; have HO258 := n7_; have BK212 := n8_; have BK213 := n9_; have BK230 := n10_; have BK231 := n11_; have BK238 := n12_; have BK245 := n13_; have HB := n14_; clear n0_ n1_ n2_ n3_ n4_ n5_ n6_ n7_ n8_ n9_ n10_ n11_ n12_ n13_ n14_; (try clear hb); (try clear hb2); (try clear hk); (try clear hi); (try clear ho0)) | ((with_reducible refine gate_dst (N := 21) rfl ?_); (try (refine gate_guard (by rfl) ?_; dsimp only)); refine box_event ?hg (N := 21) ?hd (cs := #[.int .i64 0, .int .i64 0, .slice none 0 0]) (t := 24) ?hr ?_; (case hd => rfl); (case hg => rfl); (case hr => first | (go_simp; done) | (go_simp; rfl)); intro gb260 hg w86 hbox hb; have n0_ := qM (Kd.R_below (by (with_reducible repeat (first | apply Kd.R_alloc | apply Kd.R_drewN | apply Kd.R_drew)); exact HO_9.out) hb); have n1_ := qM (Kd.R_below (by (with_reducible repeat (first | apply Kd.R_alloc | apply Kd.R_drewN | apply Kd.R_drew)); exact HO224.out) hb); have n2_ := qM (Kd.R_below (by (with_reducible repeat (first | apply Kd.R_alloc | apply Kd.R_drewN | apply Kd.R_drew)); exact HO229.out) hb); have n3_ := qM (Kd.R_below (by (with_reducible repeat (first | apply Kd.R_alloc | apply Kd.R_drewN | apply Kd.R_drew)); exact HO236.out) hb); have n4_ := qM (Kd.V_below (Kd.V_elderB (by (with_reducible repeat (first | apply Kd.V_alloc | apply Kd.V_drewN | apply Kd.V_drew)); exact HO243.out) gb260 (Nat.le_of_eq hg.symm)) hb); have n5_ := qM (Kd.R_below (by (with_reducible repeat (first | apply Kd.R_alloc | apply Kd.R_drewN | apply Kd.R_drew)); exact HO248.out) hb); have n6_ := qM (Kd.R_below (by (with_reducible repeat (first | apply Kd.R_alloc | apply Kd.R_drewN | apply Kd.R_drew)); exact HO252.out) hb); have n7_ := qM (Kd.R_below (by (with_reducible repeat (first | apply Kd.R_alloc | apply Kd.R_drewN | apply Kd.R_drew)); exact HO258.out) hb); have n8_ := qM (blk_below (g := gb212) (o := .cells #[.int .i64 a0_0, .int .i64 a0_1, .slice A0_2 l0_2.length c0_2] 24 (0, 0)) (by (with_reducible repeat (first | apply bN | apply bD | apply bA)); exact BK212.out) hb); have n9_ := qM (blk_below (g := gb213) (o := .cells #[.int .i64 a1_0, .int .i64 a1_1, .slice A1_2 l1_2.length c1_2] 24 (0, 0)) (by (with_reducible repeat (first | apply bN | apply bD | apply bA)); exact BK213.out) hb); have n10_ := qM (blk_below (g := gb230) (o := .cells #[.int .i64 t220, .int .i64 t221, .slice Ao44 t222.length co44] 24 (0, 0)) (by (with_reducible repeat (first | apply bN | apply bD | apply bA)); exact BK230.out) hb); have n11_ := qM (blk_below (g := gb231) (o := .cells #[.int .i64 t225, .int .i64 t226, .slice Ao48 t227.length co48] 24 (0, 0)) (by (with_reducible repeat (first | apply bN | apply bD | apply bA)); exact BK231.out) hb); have n12_ := qM (blk_below (g := gb238) (o := .cells #[.int .i64 t232, .int .i64 t233, .slice Ao64 t234.length co64] 24 (0, 0)) (by (with_reducible repeat (first | apply bN | apply bD | apply bA)); exact BK238.out) hb); have n13_ := qM (blk_below (g := gb245) (o := .cells #[.int .i64 t239, .int .i64 t240, .slice Ao77 t241.length co77] 24 (0, 0)) (by (with_reducible repeat (first | apply bN | apply bD | apply bA)); exact BK245.out) hb); have n14_ := qM (below_step (by repeat (first | (with_reducible first | exact HB.out | apply below_alloc | apply pw_below_drewN | apply below_drew1 | refine below_set ?_ GE212.out | refine below_set ?_ GE213.out | refine below_set ?_ GE230.out | refine below_set ?_ GE231.out | refine below_set ?_ GE238.out | refine below_set ?_ GE245.out) | exact HB.out)) hb); have n15_ := qM (hbox); have n16_ := qM ((by rw [hg]; exact (below_size (by repeat (first | (with_reducible first | exact HB.out | apply below_alloc | apply pw_below_drewN | apply below_drew1 | refine below_set ?_ GE212.out | refine below_set ?_ GE213.out | refine below_set ?_ GE230.out | refine below_set ?_ GE231.out | refine below_set ?_ GE238.out | refine below_set ?_ GE245.out) | exact HB.out))) : w.heap.size ≤ gb260)); have n17_ := qM ((by rw [hg]; exact (below_size (by repeat (first | (with_reducible first | exact HB.out | apply below_alloc | apply pw_below_drewN | apply below_drew1 | refine below_set ?_ GE212.out | refine below_set ?_ GE213.out | refine below_set ?_ GE230.out | refine below_set ?_ GE231.out | refine below_set ?_ GE238.out | refine below_set ?_ GE245.out) | exact HB.out))) : w.heap.size ≤ gb260)); have n18_ := qM ((by rw [hg]; exact Nat.ne_of_lt (blk_lt (g := gb212) (o := .cells #[.int .i64 a0_0, .int .i64 a0_1, .slice A0_2 l0_2.length c0_2] 24 (0, 0)) (by (with_reducible repeat (first | apply bN | apply bD | apply bA)); exact BK212.out)) : gb212 ≠ gb260)); have n19_ := qM ((by rw [hg]; exact Nat.ne_of_gt (blk_lt (g := gb212) (o := .cells #[.int .i64 a0_0, .int .i64 a0_1, .slice A0_2 l0_2.length c0_2] 24 (0, 0)) (by (with_reducible repeat (first | apply bN | apply bD | apply bA)); exact BK212.out)) : gb260 ≠ gb212)); have n20_ := qM ((by rw [hg]; exact Nat.ne_of_lt (blk_lt (g := gb213) (o := .cells #[.int .i64 a1_0, .int .i64 a1_1, .slice A1_2 l1_2.length c1_2] 24 (0, 0)) (by (with_reducible repeat (first | apply bN | apply bD | apply bA)); exact BK213.out)) : gb213 ≠ gb260)); have n21_ := qM ((by rw [hg]; exact Nat.ne_of_gt (blk_lt (g := gb213) (o := .cells #[.int .i64 a1_0, .int .i64 a1_1, .slice A1_2 l1_2.length c1_2] 24 (0, 0)) (by (with_reducible repeat (first | apply bN | apply bD | apply bA)); exact BK213.out)) : gb260 ≠ gb213)); have n22_ := qM ((by rw [hg]; exact Nat.ne_of_lt (blk_lt (g := gb230) (o := .cells #[.int .i64 t220, .int .i64 t221, .slice Ao44 t222.length co44] 24 (0, 0)) (by (with_reducible repeat (first | apply bN | apply bD | apply bA)); exact BK230.out)) : gb230 ≠ gb260)); have n23_ := qM ((by rw [hg]; exact Nat.ne_of_gt (blk_lt (g := gb230) (o := .cells #[.int .i64 t220, .int .i64 t221, .slice Ao44 t222.length co44] 24 (0, 0)) (by (with_reducible repeat (first | apply bN | apply bD | apply bA)); exact BK230.out)) : gb260 ≠ gb230)); have n24_ := qM ((by rw [hg]; exact Nat.ne_of_lt (blk_lt (g := gb231) (o := .cells #[.int .i64 t225, .int .i64 t226, .slice Ao48 t227.length co48] 24 (0, 0)) (by (with_reducible repeat (first | apply bN | apply bD | apply bA)); exact BK231.out)) : gb231 ≠ gb260)); have n25_ := qM ((by rw [hg]; exact Nat.ne_of_gt (blk_lt (g := gb231) (o := .cells #[.int .i64 t225, .int .i64 t226, .slice Ao48 t227.length co48] 24 (0, 0)) (by (with_reducible repeat (first | apply bN | apply bD | apply bA)); exact BK231.out)) : gb260 ≠ gb231)); have n26_ := qM ((by rw [hg]; exact Nat.ne_of_lt (blk_lt (g := gb238) (o := .cells #[.int .i64 t232, .int .i64 t233, .slice Ao64 t234.length co64] 24 (0, 0)) (by (with_reducible repeat (first | apply bN | apply bD | apply bA)); exact BK238.out)) : gb238 ≠ gb260)); have n27_ := qM ((by rw [hg]; exact Nat.ne_of_gt (blk_lt (g := gb238) (o := .cells #[.int .i64 t232, .int .i64 t233, .slice Ao64 t234.length co64] 24 (0, 0)) (by (with_reducible repeat (first | apply bN | apply bD | apply bA)); exact BK238.out)) : gb260 ≠ gb238)); have n28_ := qM ((by rw [hg]; exact Nat.ne_of_lt (blk_lt (g := gb245) (o := .cells #[.int .i64 t239, .int .i64 t240, .slice Ao77 t241.length co77] 24 (0, 0)) (by (with_reducible repeat (first | apply bN | apply bD | apply bA)); exact BK245.out)) : gb245 ≠ gb260)); have n29_ := qM ((by rw [hg]; exact Nat.ne_of_gt (blk_lt (g := gb245) (o := .cells #[.int .i64 t239, .int .i64 t240, .slice Ao77 t241.length co77] 24 (0, 0)) (by (with_reducible repeat (first | apply bN | apply bD | apply bA)); exact BK245.out)) : gb260 ≠ gb245)); clear HO_9; clear HO224; clear HO229; clear HO236; clear HO243; clear HO248; clear HO252; clear HO258; clear BK212; clear BK213; clear BK230; clear BK231; clear BK238; clear BK245; clear HB; have HO_9 := n0_; have HO224 := n1_; have HO229 := n2_; have HO236 := n3_; have HO243 := n4_; have HO248 := n5_; have HO252 := n6_; have HO258 := n7_; have BK212 := n8_; have BK213 := n9_; have BK230 := n10_; have BK231 := n11_; have BK238 := n12_; have BK245 := n13_; have HB := n14_; have BK260 := n15_; have GW260 := n16_; have GE260 := n17_; have NB212_260 := n18_; have NB260_212 := n19_; have NB213_260 := n20_; have NB260_213 := n21_; have NB230_260 := n22_; have NB260_230 := n23_; have NB231_260 := n24_; have NB260_231 := n25_; have NB238_260 := n26_; have NB260_238 := n27_; have NB245_260 := n28_; have NB260_245 := n29_; clear n0_ n1_ n2_ n3_ n4_ n5_ n6_ n7_ n8_ n9_ n10_ n11_ n12_ n13_ n14_ n15_ n16_ n17_ n18_ n19_ n20_ n21_ n22_ n23_ n24_ n25_ n26_ n27_ n28_ n29_; clear hb hbox hg; have hnb87 := NB260_212.out; have hnc87 := NB212_260.out; have hnb88 := NB260_213.out; have hnc88 := NB213_260.out; have hnb89 := NB260_230.out; have hnc89 := NB230_260.out; have hnb90 := NB260_231.out; have hnc90 := NB231_260.out; have hnb91 := NB260_238.out; have hnc91 := NB238_260.out; have hnb92 := NB260_245.out; have hnc92 := NB245_260.out; have hcz93_0 : w86.cell? ⟨gb260, 0, none⟩ = some (.int .i64 0) := (blk_cell BK260.out 0).trans rfl; have hcz93_1 : w86.cell? ⟨gb260, 1, none⟩ = some (.int .i64 0) := (blk_cell BK260.out 1).trans rfl; have hcz93_2 : w86.cell? ⟨gb260, 2, none⟩ = some (.slice none 0 0) := (blk_cell BK260.out 2).trans rfl; have hfz93_0 := blk_frozen BK260.out 0; have hfz93_1 := blk_frozen BK260.out 1; have hfz93_2 := blk_frozen BK260.out 2; obtain ⟨Ao94, co94, eo94⟩ := Kd.R_slice HO258.out; subst eo94; have hcz95_0 : w86.cell? ⟨gb212, 0, none⟩ = some (.int .i64 a0_0) := (blk_cell BK212.out 0).trans rfl; have hcz95_1 : w86.cell? ⟨gb212, 1, none⟩ = some (.int .i64 a0_1) := (blk_cell BK212.out 1).trans rfl; have hcz95_2 : w86.cell? ⟨gb212, 2, none⟩ = some (.slice A0_2 l0_2.length c0_2) := (blk_cell BK212.out 2).trans rfl; have hfz95_0 := blk_frozen BK212.out 0; have hfz95_1 := blk_frozen BK212.out 1; have hfz95_2 := blk_frozen BK212.out 2; obtain ⟨Ao96, co96, eo96⟩ := Kd.R_slice HO_9.out; subst eo96) | ((with_reducible refine gate_callee (f := 22) rfl ?_); refine goesL_ (some 103) rfl rfl Try.func22 (by kernel_rfl) rfl #[.agg #[.int .i64 a0_0, .int .i64 a0_1, .slice A0_2 l0_2.length c0_2], .int .i64 a2, .slice Ao96 x9_2.length co96] rfl (by (try simp only [List.map_toArray, List.map_cons, List.map_nil]); first | done | rfl | (simp only [List.length_drop, List.length_take]; rfl)) ?_; (with_reducible refine (meterref18_Patch.calls k2 a0_0 a0_1 _ _ l0_2 a2 _ _ x9_2 t261 t262 t263 t266 _ ?side1 ?side2 ?side3 ?side4 A34.out).mono ?_); (case side1 => exact Kd.C_below HR0_2.out (by repeat (first | (with_reducible first | exact HB.out | apply below_alloc | apply pw_below_drewN | apply below_drew1 | refine below_set ?_ GE212.out | refine below_set ?_ GE213.out | refine below_set ?_ GE230.out | refine below_set ?_ GE231.out | refine below_set ?_ GE238.out | refine below_set ?_ GE245.out | refine below_set ?_ GE260.out) | exact HB.out))); (case side2 => exact HC0_2.out); (case side3 => refine (Kd.R_reads' (e := 41) (base := w.heap.size) (ok := fun k_ => (True ∧ some k_ ≠ (v251 : Value).ownBlock)) (n := x9_2.length) (c := co96) ?_).2.2; exact (by (with_reducible repeat (first | apply Kd.R_alloc | apply Kd.R_drewN | apply Kd.R_drew)); exact (Kd.R_mono (Kd.R_far (p := ⟨gb260, 2, none⟩) (Kd.R_far (p := ⟨gb260, 1, none⟩) (Kd.R_far (p := ⟨gb260, 0, none⟩) (Kd.R_types HO_9.out BK260.out (by decide)) (fun _ hk => hk.2) (.int .i64 t254)) (fun _ hk => hk.2) (.int .i64 t255)) (fun _ hk => hk.2) (.slice Ao94 t256.length co94)) (fun _ h_ => h_.1)))); (case side4 => exact (Kd.R_reads' HO_9.out).2.1); rintro e w97 ⟨v264, rfl, ho0, hb⟩; refine ⟨_, rfl, ?_⟩; have n0_ := qM (Kd.R_below (by (with_reducible repeat (first | apply Kd.R_alloc | apply Kd.R_drewN | apply Kd.R_drew)); exact (Kd.R_mono (Kd.R_far (p := ⟨gb260, 2, none⟩) (Kd.R_far (p := ⟨gb260, 1, none⟩) (Kd.R_far (p := ⟨gb260, 0, none⟩) (Kd.R_types HO_9.out BK260.out (by decide)) (fun _ hk => hk.2) (.int .i64 t254)) (fun _ hk => hk.2) (.int .i64 t255)) (fun _ hk => hk.2) (.slice Ao94 t256.length co94)) (fun _ h_ => h_.1))) hb); have n1_ := qM (Kd.R_elder' (by (with_reducible repeat (first | apply Kd.R_alloc | apply Kd.R_drewN | apply Kd.R_drew)); exact (Kd.R_mono (Kd.R_far (p := ⟨gb260, 2, none⟩) (Kd.R_far (p := ⟨gb260, 1, none⟩) (Kd.R_far (p := ⟨gb260, 0, none⟩) (Kd.R_types HO224.out BK260.out (by decide)) (fun _ hk => hk.2) (.int .i64 t254)) (fun _ hk => hk.2) (.int .i64 t255)) (fun _ hk => hk.2) (.slice Ao94 t256.length co94)) (fun _ h_ => h_.1))) (Kd.R_base ho0) hb); have n2_ := qM (Kd.R_elder' (by (with_reducible repeat (first | apply Kd.R_alloc | apply Kd.R_drewN | apply Kd.R_drew)); exact (Kd.R_mono (Kd.R_far (p := ⟨gb260, 2, none⟩) (Kd.R_far (p := ⟨gb260, 1, none⟩) (Kd.R_far (p := ⟨gb260, 0, none⟩) (Kd.R_types HO229.out BK260.out (by decide)) (fun _ hk => hk.2) (.int .i64 t254)) (fun _ hk => hk.2) (.int .i64 t255)) (fun _ hk => hk.2) (.slice Ao94 t256.length co94)) (fun _ h_ => h_.1))) (Kd.R_base ho0) hb); have n3_ := qM (Kd.R_elder' (by (with_reducible repeat (first | apply Kd.R_alloc | apply Kd.R_drewN | apply Kd.R_drew)); exact (Kd.R_mono (Kd.R_far (p := ⟨gb260, 2, none⟩) (Kd.R_far (p := ⟨gb260, 1, none⟩) (Kd.R_far (p := ⟨gb260, 0, none⟩) (Kd.R_types HO236.out BK260.out (by decide)) (fun _ hk => hk.2) (.int .i64 t254)) (fun _ hk => hk.2) (.int .i64 t255)) (fun _ hk => hk.2) (.slice Ao94 t256.length co94)) (fun _ h_ => h_.1))) (Kd.R_base ho0) hb); have n4_ := qM (Kd.V_elder' (by (with_reducible repeat (first | apply Kd.V_alloc | apply Kd.V_drewN | apply Kd.V_drew)); exact (Kd.V_mono (Kd.V_far (p := ⟨gb260, 2, none⟩) (Kd.V_far (p := ⟨gb260, 1, none⟩) (Kd.V_far (p := ⟨gb260, 0, none⟩) (Kd.V_mono HO243.out (fun k_ hk => (⟨hk, hk.2⟩ : _ ∧ k_ ≠ gb260))) (fun _ hk => hk.2) (.int .i64 t254)) (fun _ hk => hk.2) (.int .i64 t255)) (fun _ hk => hk.2) (.slice Ao94 t256.length co94)) (fun _ h_ => h_.1))) (Kd.R_base ho0) hb); have n5_ := qM (Kd.R_below (by (with_reducible repeat (first | apply Kd.R_alloc | apply Kd.R_drewN | apply Kd.R_drew)); exact (Kd.R_mono (Kd.R_far (p := ⟨gb260, 2, none⟩) (Kd.R_far (p := ⟨gb260, 1, none⟩) (Kd.R_far (p := ⟨gb260, 0, none⟩) (Kd.R_types HO248.out BK260.out (by decide)) (fun _ hk => hk.2) (.int .i64 t254)) (fun _ hk => hk.2) (.int .i64 t255)) (fun _ hk => hk.2) (.slice Ao94 t256.length co94)) (fun _ h_ => h_.1))) hb); have n6_ := qM (Kd.R_below (by (with_reducible repeat (first | apply Kd.R_alloc | apply Kd.R_drewN | apply Kd.R_drew)); exact (Kd.R_mono (Kd.R_far (p := ⟨gb260, 2, none⟩) (Kd.R_far (p := ⟨gb260, 1, none⟩) (Kd.R_far (p := ⟨gb260, 0, none⟩) (Kd.R_types HO252.out BK260.out (by decide)) (fun _ hk => hk.2) (.int .i64 t254)) (fun _ hk => hk.2) (.int .i64 t255)) (fun _ hk => hk.2) (.slice Ao94 t256.length co94)) (fun _ h_ => h_.1))) hb); have n7_ := qM (Kd.R_elder' (by (with_reducible repeat (first | apply Kd.R_alloc | apply Kd.R_drewN | apply Kd.R_drew)); exact (Kd.R_mono (Kd.R_far (p := ⟨gb260, 2, none⟩) (Kd.R_far (p := ⟨gb260, 1, none⟩) (Kd.R_far (p := ⟨gb260, 0, none⟩) (Kd.R_types HO258.out BK260.out (by decide)) (fun _ hk => hk.2) (.int .i64 t254)) (fun _ hk => hk.2) (.int .i64 t255)) (fun _ hk => hk.2) (.slice Ao94 t256.length co94)) (fun _ h_ => h_.1))) (Kd.R_base ho0) hb); have n8_ := qM (Kd.R_lower (Kd.R_new' (Kd.R_new' (Kd.R_new' (Kd.R_new' ho0 (Kd.R_lt (by (with_reducible repeat (first | apply Kd.R_alloc | apply Kd.R_drewN | apply Kd.R_drew)); exact (Kd.R_mono (Kd.R_far (p := ⟨gb260, 2, none⟩) (Kd.R_far (p := ⟨gb260, 1, none⟩) (Kd.R_far (p := ⟨gb260, 0, none⟩) (Kd.R_types HO224.out BK260.out (by decide)) (fun _ hk => hk.2) (.int .i64 t254)) (fun _ hk => hk.2) (.int .i64 t255)) (fun _ hk => hk.2) (.slice Ao94 t256.length co94)) (fun _ h_ => h_.1))))) (Kd.R_lt (by (with_reducible repeat (first | apply Kd.R_alloc | apply Kd.R_drewN | apply Kd.R_drew)); exact (Kd.R_mono (Kd.R_far (p := ⟨gb260, 2, none⟩) (Kd.R_far (p := ⟨gb260, 1, none⟩) (Kd.R_far (p := ⟨gb260, 0, none⟩) (Kd.R_types HO229.out BK260.out (by decide)) (fun _ hk => hk.2) (.int .i64 t254)) (fun _ hk => hk.2) (.int .i64 t255)) (fun _ hk => hk.2) (.slice Ao94 t256.length co94)) (fun _ h_ => h_.1))))) (Kd.R_lt (by (with_reducible repeat (first | apply Kd.R_alloc | apply Kd.R_drewN | apply Kd.R_drew)); exact (Kd.R_mono (Kd.R_far (p := ⟨gb260, 2, none⟩) (Kd.R_far (p := ⟨gb260, 1, none⟩) (Kd.R_far (p := ⟨gb260, 0, none⟩) (Kd.R_types HO236.out BK260.out (by decide)) (fun _ hk => hk.2) (.int .i64 t254)) (fun _ hk => hk.2) (.int .i64 t255)) (fun _ hk => hk.2) (.slice Ao94 t256.length co94)) (fun _ h_ => h_.1))))) (Kd.R_lt (by (with_reducible repeat (first | apply Kd.R_alloc | apply Kd.R_drewN | apply Kd.R_drew)); exact (Kd.R_mono (Kd.R_far (p := ⟨gb260, 2, none⟩) (Kd.R_far (p := ⟨gb260, 1, none⟩) (Kd.R_far (p := ⟨gb260, 0, none⟩) (Kd.R_types HO258.out BK260.out (by decide)) (fun _ hk => hk.2) (.int .i64 t254)) (fun _ hk => hk.2) (.int .i64 t255)) (fun _ hk => hk.2) (.slice Ao94 t256.length co94)) (fun _ h_ => h_.1))))) (below_size (by repeat (first | (with_reducible first | exact HB.out | apply below_alloc | apply pw_below_drewN | apply below_drew1 | refine below_set ?_ GE212.out | refine below_set ?_ GE213.out | refine below_set ?_ GE230.out | refine below_set ?_ GE231.out | refine below_set ?_ GE238.out | refine below_set ?_ GE245.out | refine below_set ?_ GE260.out) | exact HB.out)))); have n9_ := qM (blk_below (g := gb212) (o := .cells #[.int .i64 a0_0, .int .i64 a0_1, .slice A0_2 l0_2.length c0_2] 24 (0, 0)) (by (with_reducible repeat (first | apply bN | apply bD | apply bA)); refine blk_far ?_ NB212_260.out _; (with_reducible repeat (first | apply bN | apply bD | apply bA)); refine blk_far ?_ NB212_260.out _; (with_reducible repeat (first | apply bN | apply bD | apply bA)); refine blk_far ?_ NB212_260.out _; (with_reducible repeat (first | apply bN | apply bD | apply bA)); exact BK212.out) hb); have n10_ := qM (blk_below (g := gb213) (o := .cells #[.int .i64 a1_0, .int .i64 a1_1, .slice A1_2 l1_2.length c1_2] 24 (0, 0)) (by (with_reducible repeat (first | apply bN | apply bD | apply bA)); refine blk_far ?_ NB213_260.out _; (with_reducible repeat (first | apply bN | apply bD | apply bA)); refine blk_far ?_ NB213_260.out _; (with_reducible repeat (first | apply bN | apply bD | apply bA)); refine blk_far ?_ NB213_260.out _; (with_reducible repeat (first | apply bN | apply bD | apply bA)); exact BK213.out) hb); have n11_ := qM (blk_below (g := gb230) (o := .cells #[.int .i64 t220, .int .i64 t221, .slice Ao44 t222.length co44] 24 (0, 0)) (by (with_reducible repeat (first | apply bN | apply bD | apply bA)); refine blk_far ?_ NB230_260.out _; (with_reducible repeat (first | apply bN | apply bD | apply bA)); refine blk_far ?_ NB230_260.out _; (with_reducible repeat (first | apply bN | apply bD | apply bA)); refine blk_far ?_ NB230_260.out _; (with_reducible repeat (first | apply bN | apply bD | apply bA)); exact BK230.out) hb); have n12_ := qM (blk_below (g := gb231) (o := .cells #[.int .i64 t225, .int .i64 t226, .slice Ao48 t227.length co48] 24 (0, 0)) (by (with_reducible repeat (first | apply bN | apply bD | apply bA)); refine blk_far ?_ NB231_260.out _; (with_reducible repeat (first | apply bN | apply bD | apply bA)); refine blk_far ?_ NB231_260.out _; (with_reducible repeat (first | apply bN | apply bD | apply bA)); refine blk_far ?_ NB231_260.out _; (with_reducible repeat (first | apply bN | apply bD | apply bA)); exact BK231.out) hb); have n13_ := qM (blk_below (g := gb238) (o := .cells #[.int .i64 t232, .int .i64 t233, .slice Ao64 t234.length co64] 24 (0, 0)) (by (with_reducible repeat (first | apply bN | apply bD | apply bA)); refine blk_far ?_ NB238_260.out _; (with_reducible repeat (first | apply bN | apply bD | apply bA)); refine blk_far ?_ NB238_260.out _; (with_reducible repeat (first | apply bN | apply bD | apply bA)); refine blk_far ?_ NB238_260.out _; (with_reducible repeat (first | apply bN | apply bD | apply bA)); exact BK238.out) hb); have n14_ := qM (blk_below (g := gb245) (o := .cells #[.int .i64 t239, .int .i64 t240, .slice Ao77 t241.length co77] 24 (0, 0)) (by (with_reducible repeat (first | apply bN | apply bD | apply bA)); refine blk_far ?_ NB245_260.out _; (with_reducible repeat (first | apply bN | apply bD | apply bA)); refine blk_far ?_ NB245_260.out _; (with_reducible repeat (first | apply bN | apply bD | apply bA)); refine blk_far ?_ NB245_260.out _; (with_reducible repeat (first | apply bN | apply bD | apply bA)); exact BK245.out) hb); have n15_ := qM (blk_below (g := gb260) (o := .cells #[.int .i64 t254, .int .i64 t255, .slice Ao94 t256.length co94] 24 (0, 0)) (by (with_reducible repeat (first | apply bN | apply bD | apply bA)); refine blk_put (cs := #[.int .i64 t254, .int .i64 t255, .slice none 0 0]) ?_ 2 _ rfl; (with_reducible repeat (first | apply bN | apply bD | apply bA)); refine blk_put (cs := #[.int .i64 t254, .int .i64 0, .slice none 0 0]) ?_ 1 _ rfl; (with_reducible repeat (first | apply bN | apply bD | apply bA)); refine blk_put (cs := #[.int .i64 0, .int .i64 0, .slice none 0 0]) ?_ 0 _ rfl; (with_reducible repeat (first | apply bN | apply bD | apply bA)); exact BK260.out) hb); have n16_ := qM (below_step (by repeat (first | (with_reducible first | exact HB.out | apply below_alloc | apply pw_below_drewN | apply below_drew1 | refine below_set ?_ GE212.out | refine below_set ?_ GE213.out | refine below_set ?_ GE230.out | refine below_set ?_ GE231.out | refine below_set ?_ GE238.out | refine below_set ?_ GE245.out | refine below_set ?_ GE260.out) | exact HB.out)) hb); clear HO_9; clear HO224; clear HO229; clear HO236; clear HO243; clear HO248; clear HO252; clear HO258; clear BK212; clear BK213; clear BK230; clear BK231; clear BK238; clear BK245; clear BK260; clear HB; have HO_9 := n0_; have HO224 := n1_; have HO229 := n2_; have HO236 := n3_; have HO243 := n4_; have HO248 := n5_; have HO252 := n6_; have HO258 := n7_; have HO265 := n8_; have BK212 := n9_; have BK213 := n10_; have BK230 := n11_; have BK231 := n12_; have BK238 := n13_; have BK245 := n14_; have BK260 := n15_; have HB := n16_; clear n0_ n1_ n2_ n3_ n4_ n5_ n6_ n7_ n8_ n9_ n10_ n11_ n12_ n13_ n14_ n15_ n16_; (try clear hb); (try clear hb2); (try clear hk); (try clear hi); (try clear ho0)) | ((with_reducible refine gate_dst (N := 23) rfl ?_); (try (refine gate_guard (by rfl) ?_; dsimp only)); refine box_event ?hg (N := 23) ?hd (cs := #[.int .i64 0, .int .i64 0, .slice none 0 0]) (t := 24) ?hr ?_; (case hd => rfl); (case hg => rfl); (case hr => first | (go_simp; done) | (go_simp; rfl)); intro gb267 hg w98 hbox hb; have n0_ := qM (Kd.R_below (by (with_reducible repeat (first | apply Kd.R_alloc | apply Kd.R_drewN | apply Kd.R_drew)); exact HO_9.out) hb); have n1_ := qM (Kd.R_below (by (with_reducible repeat (first | apply Kd.R_alloc | apply Kd.R_drewN | apply Kd.R_drew)); exact HO224.out) hb); have n2_ := qM (Kd.R_below (by (with_reducible repeat (first | apply Kd.R_alloc | apply Kd.R_drewN | apply Kd.R_drew)); exact HO229.out) hb); have n3_ := qM (Kd.R_below (by (with_reducible repeat (first | apply Kd.R_alloc | apply Kd.R_drewN | apply Kd.R_drew)); exact HO236.out) hb); have n4_ := qM (Kd.V_below (Kd.V_elderB (by (with_reducible repeat (first | apply Kd.V_alloc | apply Kd.V_drewN | apply Kd.V_drew)); exact HO243.out) gb267 (Nat.le_of_eq hg.symm)) hb); have n5_ := qM (Kd.R_below (by (with_reducible repeat (first | apply Kd.R_alloc | apply Kd.R_drewN | apply Kd.R_drew)); exact HO248.out) hb); have n6_ := qM (Kd.R_below (by (with_reducible repeat (first | apply Kd.R_alloc | apply Kd.R_drewN | apply Kd.R_drew)); exact HO252.out) hb); have n7_ := qM (Kd.R_below (by (with_reducible repeat (first | apply Kd.R_alloc | apply Kd.R_drewN | apply Kd.R_drew)); exact HO258.out) hb); have n8_ := qM (Kd.R_below (by (with_reducible repeat (first | apply Kd.R_alloc | apply Kd.R_drewN | apply Kd.R_drew)); exact HO265.out) hb); have n9_ := qM (blk_below (g := gb212) (o := .cells #[.int .i64 a0_0, .int .i64 a0_1, .slice A0_2 l0_2.length c0_2] 24 (0, 0)) (by (with_reducible repeat (first | apply bN | apply bD | apply bA)); exact BK212.out) hb); have n10_ := qM (blk_below (g := gb213) (o := .cells #[.int .i64 a1_0, .int .i64 a1_1, .slice A1_2 l1_2.length c1_2] 24 (0, 0)) (by (with_reducible repeat (first | apply bN | apply bD | apply bA)); exact BK213.out) hb); have n11_ := qM (blk_below (g := gb230) (o := .cells #[.int .i64 t220, .int .i64 t221, .slice Ao44 t222.length co44] 24 (0, 0)) (by (with_reducible repeat (first | apply bN | apply bD | apply bA)); exact BK230.out) hb); have n12_ := qM (blk_below (g := gb231) (o := .cells #[.int .i64 t225, .int .i64 t226, .slice Ao48 t227.length co48] 24 (0, 0)) (by (with_reducible repeat (first | apply bN | apply bD | apply bA)); exact BK231.out) hb); have n13_ := qM (blk_below (g := gb238) (o := .cells #[.int .i64 t232, .int .i64 t233, .slice Ao64 t234.length co64] 24 (0, 0)) (by (with_reducible repeat (first | apply bN | apply bD | apply bA)); exact BK238.out) hb); have n14_ := qM (blk_below (g := gb245) (o := .cells #[.int .i64 t239, .int .i64 t240, .slice Ao77 t241.length co77] 24 (0, 0)) (by (with_reducible repeat (first | apply bN | apply bD | apply bA)); exact BK245.out) hb); have n15_ := qM (blk_below (g := gb260) (o := .cells #[.int .i64 t254, .int .i64 t255, .slice Ao94 t256.length co94] 24 (0, 0)) (by (with_reducible repeat (first | apply bN | apply bD | apply bA)); exact BK260.out) hb); have n16_ := qM (below_step (by repeat (first | (with_reducible first | exact HB.out | apply below_alloc | apply pw_below_drewN | apply below_drew1 | refine below_set ?_ GE212.out | refine below_set ?_ GE213.out | refine below_set ?_ GE230.out | refine below_set ?_ GE231.out | refine below_set ?_ GE238.out | refine below_set ?_ GE245.out | refine below_set ?_ GE260.out) | exact HB.out)) hb); have n17_ := qM (hbox); have n18_ := qM ((by rw [hg]; exact (below_size (by repeat (first | (with_reducible first | exact HB.out | apply below_alloc | apply pw_below_drewN | apply below_drew1 | refine below_set ?_ GE212.out | refine below_set ?_ GE213.out | refine below_set ?_ GE230.out | refine below_set ?_ GE231.out | refine below_set ?_ GE238.out | refine below_set ?_ GE245.out | refine below_set ?_ GE260.out) | exact HB.out))) : w.heap.size ≤ gb267)); have n19_ := qM ((by rw [hg]; exact (below_size (by repeat (first | (with_reducible first | exact HB.out | apply below_alloc | apply pw_below_drewN | apply below_drew1 | refine below_set ?_ GE212.out | refine below_set ?_ GE213.out | refine below_set ?_ GE230.out | refine below_set ?_ GE231.out | refine below_set ?_ GE238.out | refine below_set ?_ GE245.out | refine below_set ?_ GE260.out) | exact HB.out))) : w.heap.size ≤ gb267)); have n20_ := qM ((by rw [hg]; exact Nat.ne_of_lt (blk_lt (g := gb212) (o := .cells #[.int .i64 a0_0, .int .i64 a0_1, .slice A0_2 l0_2.length c0_2] 24 (0, 0)) (by (with_reducible repeat (first | apply bN | apply bD | apply bA)); exact BK212.out)) : gb212 ≠ gb267)); have n21_ := qM ((by rw [hg]; exact Nat.ne_of_gt (blk_lt (g := gb212) (o := .cells #[.int .i64 a0_0, .int .i64 a0_1, .slice A0_2 l0_2.length c0_2] 24 (0, 0)) (by (with_reducible repeat (first | apply bN | apply bD | apply bA)); exact BK212.out)) : gb267 ≠ gb212)); have n22_ := qM ((by rw [hg]; exact Nat.ne_of_lt (blk_lt (g := gb213) (o := .cells #[.int .i64 a1_0, .int .i64 a1_1, .slice A1_2 l1_2.length c1_2] 24 (0, 0)) (by (with_reducible repeat (first | apply bN | apply bD | apply bA)); exact BK213.out)) : gb213 ≠ gb267)); have n23_ := qM ((by rw [hg]; exact Nat.ne_of_gt (blk_lt (g := gb213) (o := .cells #[.int .i64 a1_0, .int .i64 a1_1, .slice A1_2 l1_2.length c1_2] 24 (0, 0)) (by (with_reducible repeat (first | apply bN | apply bD | apply bA)); exact BK213.out)) : gb267 ≠ gb213)); have n24_ := qM ((by rw [hg]; exact Nat.ne_of_lt (blk_lt (g := gb230) (o := .cells #[.int .i64 t220, .int .i64 t221, .slice Ao44 t222.length co44] 24 (0, 0)) (by (with_reducible repeat (first | apply bN | apply bD | apply bA)); exact BK230.out)) : gb230 ≠ gb267)); have n25_ := qM ((by rw [hg]; exact Nat.ne_of_gt (blk_lt (g := gb230) (o := .cells #[.int .i64 t220, .int .i64 t221, .slice Ao44 t222.length co44] 24 (0, 0)) (by (with_reducible repeat (first | apply bN | apply bD | apply bA)); exact BK230.out)) : gb267 ≠ gb230)); have n26_ := qM ((by rw [hg]; exact Nat.ne_of_lt (blk_lt (g := gb231) (o := .cells #[.int .i64 t225, .int .i64 t226, .slice Ao48 t227.length co48] 24 (0, 0)) (by (with_reducible repeat (first | apply bN | apply bD | apply bA)); exact BK231.out)) : gb231 ≠ gb267)); have n27_ := qM ((by rw [hg]; exact Nat.ne_of_gt (blk_lt (g := gb231) (o := .cells #[.int .i64 t225, .int .i64 t226, .slice Ao48 t227.length co48] 24 (0, 0)) (by (with_reducible repeat (first | apply bN | apply bD | apply bA)); exact BK231.out)) : gb267 ≠ gb231)); have n28_ := qM ((by rw [hg]; exact Nat.ne_of_lt (blk_lt (g := gb238) (o := .cells #[.int .i64 t232, .int .i64 t233, .slice Ao64 t234.length co64] 24 (0, 0)) (by (with_reducible repeat (first | apply bN | apply bD | apply bA)); exact BK238.out)) : gb238 ≠ gb267)); have n29_ := qM ((by rw [hg]; exact Nat.ne_of_gt (blk_lt (g := gb238) (o := .cells #[.int .i64 t232, .int .i64 t233, .slice Ao64 t234.length co64] 24 (0, 0)) (by (with_reducible repeat (first | apply bN | apply bD | apply bA)); exact BK238.out)) : gb267 ≠ gb238)); have n30_ := qM ((by rw [hg]; exact Nat.ne_of_lt (blk_lt (g := gb245) (o := .cells #[.int .i64 t239, .int .i64 t240, .slice Ao77 t241.length co77] 24 (0, 0)) (by (with_reducible repeat (first | apply bN | apply bD | apply bA)); exact BK245.out)) : gb245 ≠ gb267)); have n31_ := qM ((by rw [hg]; exact Nat.ne_of_gt (blk_lt (g := gb245) (o := .cells #[.int .i64 t239, .int .i64 t240, .slice Ao77 t241.length co77] 24 (0, 0)) (by (with_reducible repeat (first | apply bN | apply bD | apply bA)); exact BK245.out)) : gb267 ≠ gb245)); have n32_ := qM ((by rw [hg]; exact Nat.ne_of_lt (blk_lt (g := gb260) (o := .cells #[.int .i64 t254, .int .i64 t255, .slice Ao94 t256.length co94] 24 (0, 0)) (by (with_reducible repeat (first | apply bN | apply bD | apply bA)); exact BK260.out)) : gb260 ≠ gb267)); have n33_ := qM ((by rw [hg]; exact Nat.ne_of_gt (blk_lt (g := gb260) (o := .cells #[.int .i64 t254, .int .i64 t255, .slice Ao94 t256.length co94] 24 (0, 0)) (by (with_reducible repeat (first | apply bN | apply bD | apply bA)); exact BK260.out)) : gb267 ≠ gb260)); clear HO_9; clear HO224; clear HO229; clear HO236; clear HO243; clear HO248; clear HO252; clear HO258; clear HO265; clear BK212; clear BK213; clear BK230; clear BK231; clear BK238; clear BK245; clear BK260; clear HB; have HO_9 := n0_; have HO224 := n1_; have HO229 := n2_; have HO236 := n3_; have HO243 := n4_; have HO248 := n5_; have HO252 := n6_; have HO258 := n7_; have HO265 := n8_; have BK212 := n9_; have BK213 := n10_; have BK230 := n11_; have BK231 := n12_; have BK238 := n13_; have BK245 := n14_; have BK260 := n15_; have HB := n16_; have BK267 := n17_; have GW267 := n18_; have GE267 := n19_; have NB212_267 := n20_; have NB267_212 := n21_; have NB213_267 := n22_; have NB267_213 := n23_; have NB230_267 := n24_; have NB267_230 := n25_; have NB231_267 := n26_; have NB267_231 := n27_; have NB238_267 := n28_; have NB267_238 := n29_; have NB245_267 := n30_; have NB267_245 := n31_; have NB260_267 := n32_; have NB267_260 := n33_; clear n0_ n1_ n2_ n3_ n4_ n5_ n6_ n7_ n8_ n9_ n10_ n11_ n12_ n13_ n14_ n15_ n16_ n17_ n18_ n19_ n20_ n21_ n22_ n23_ n24_ n25_ n26_ n27_ n28_ n29_ n30_ n31_ n32_ n33_; clear hb hbox hg; have hnb99 := NB267_212.out; have hnc99 := NB212_267.out; have hnb100 := NB267_213.out; have hnc100 := NB213_267.out; have hnb101 := NB267_230.out; have hnc101 := NB230_267.out; have hnb102 := NB267_231.out; have hnc102 := NB231_267.out; have hnb103 := NB267_238.out; have hnc103 := NB238_267.out; have hnb104 := NB267_245.out; have hnc104 := NB245_267.out; have hnb105 := NB267_260.out; have hnc105 := NB260_267.out; have hcz106_0 : w98.cell? ⟨gb267, 0, none⟩ = some (.int .i64 0) := (blk_cell BK267.out 0).trans rfl; have hcz106_1 : w98.cell? ⟨gb267, 1, none⟩ = some (.int .i64 0) := (blk_cell BK267.out 1).trans rfl; have hcz106_2 : w98.cell? ⟨gb267, 2, none⟩ = some (.slice none 0 0) := (blk_cell BK267.out 2).trans rfl; have hfz106_0 := blk_frozen BK267.out 0; have hfz106_1 := blk_frozen BK267.out 1; have hfz106_2 := blk_frozen BK267.out 2; obtain ⟨Ao107, co107, eo107⟩ := Kd.R_slice HO265.out; subst eo107))
      (try simp only [Act.put, List.setIfInBounds_toArray, List.set_cons_zero, List.set_cons_succ])
      go_cut [136] (fun v136 wc => ∃ (kq : Nat) (x136_34 : Bool), v136 = .bool x136_34 ∧ Aside0 (meterlaw18_SpreadTells.j2 kq x136_34 a0_0 a0_1 l0_2 a1_0 a1_1 l1_2 t220 t221 t222 t225 t226 t227 t232 t233 t234 t254 t255 t256 = some r) ∧ Aside0 (kq ≤ k2) ∧ Aside0 (Kd.R (Kd.int .i64) 3 wc w.heap.size (fun k_ => some k_ ≠ ((.slice Ao48 t227.length co48) : Value).ownBlock ∧ some k_ ≠ ((.slice Ao64 t234.length co64) : Value).ownBlock ∧ some k_ ≠ ((.slice Ao94 t256.length co94) : Value).ownBlock ∧ some k_ ≠ ((.slice Ao107 t263.length co107) : Value).ownBlock) (.slice Ao44 t222.length co44) t222) ∧ Aside0 (Kd.R (Kd.int .i64) 3 wc w.heap.size (fun k_ => some k_ ≠ ((.slice Ao44 t222.length co44) : Value).ownBlock ∧ some k_ ≠ ((.slice Ao64 t234.length co64) : Value).ownBlock ∧ some k_ ≠ ((.slice Ao94 t256.length co94) : Value).ownBlock ∧ some k_ ≠ ((.slice Ao107 t263.length co107) : Value).ownBlock) (.slice Ao48 t227.length co48) t227) ∧ Aside0 (Kd.R (Kd.int .i64) 3 wc w.heap.size (fun k_ => some k_ ≠ ((.slice Ao44 t222.length co44) : Value).ownBlock ∧ some k_ ≠ ((.slice Ao48 t227.length co48) : Value).ownBlock ∧ some k_ ≠ ((.slice Ao94 t256.length co94) : Value).ownBlock ∧ some k_ ≠ ((.slice Ao107 t263.length co107) : Value).ownBlock) (.slice Ao64 t234.length co64) t234) ∧ Aside0 (Kd.V (Kd.int .i64) 3 wc w.heap.size (fun k_ => some k_ ≠ ((.slice Ao44 t222.length co44) : Value).ownBlock ∧ some k_ ≠ ((.slice Ao48 t227.length co48) : Value).ownBlock ∧ some k_ ≠ ((.slice Ao64 t234.length co64) : Value).ownBlock ∧ some k_ ≠ ((.slice Ao94 t256.length co94) : Value).ownBlock ∧ some k_ ≠ ((.slice Ao107 t263.length co107) : Value).ownBlock ∧ k_ ≠ gb212 ∧ k_ ≠ gb213 ∧ k_ ≠ gb230 ∧ k_ ≠ gb231 ∧ k_ ≠ gb238 ∧ k_ ≠ gb245 ∧ k_ ≠ gb260 ∧ k_ ≠ gb267) (.slice Ao77 t241.length co77) t241) ∧ Aside0 (Kd.R (Kd.int .i64) 3 wc w.heap.size (fun k_ => some k_ ≠ ((.slice Ao44 t222.length co44) : Value).ownBlock ∧ some k_ ≠ ((.slice Ao48 t227.length co48) : Value).ownBlock ∧ some k_ ≠ ((.slice Ao64 t234.length co64) : Value).ownBlock ∧ some k_ ≠ ((.slice Ao107 t263.length co107) : Value).ownBlock) (.slice Ao94 t256.length co94) t256) ∧ Aside0 (Kd.R (Kd.int .i64) 3 wc w.heap.size (fun k_ => some k_ ≠ ((.slice Ao44 t222.length co44) : Value).ownBlock ∧ some k_ ≠ ((.slice Ao48 t227.length co48) : Value).ownBlock ∧ some k_ ≠ ((.slice Ao64 t234.length co64) : Value).ownBlock ∧ some k_ ≠ ((.slice Ao94 t256.length co94) : Value).ownBlock) (.slice Ao107 t263.length co107) t263) ∧ Aside0 (wc.heap[gb212]? = some (.cells #[.int .i64 a0_0, .int .i64 a0_1, (.slice A0_2 l0_2.length c0_2)] 24 (0, 0))) ∧ Aside0 (wc.heap[gb213]? = some (.cells #[.int .i64 a1_0, .int .i64 a1_1, (.slice A1_2 l1_2.length c1_2)] 24 (0, 0))) ∧ Aside0 (wc.heap[gb230]? = some (.cells #[.int .i64 t220, .int .i64 t221, (.slice Ao44 t222.length co44)] 24 (0, 0))) ∧ Aside0 (wc.heap[gb231]? = some (.cells #[.int .i64 t225, .int .i64 t226, (.slice Ao48 t227.length co48)] 24 (0, 0))) ∧ Aside0 (wc.heap[gb238]? = some (.cells #[.int .i64 t232, .int .i64 t233, (.slice Ao64 t234.length co64)] 24 (0, 0))) ∧ Aside0 (wc.heap[gb245]? = some (.cells #[.int .i64 t239, .int .i64 t240, (.slice Ao77 t241.length co77)] 24 (0, 0))) ∧ Aside0 (wc.heap[gb260]? = some (.cells #[.int .i64 t254, .int .i64 t255, (.slice Ao94 t256.length co94)] 24 (0, 0))) ∧ Aside0 (wc.heap[gb267]? = some (.cells #[.int .i64 t261, .int .i64 t262, (.slice Ao107 t263.length co107)] 24 (0, 0))) ∧ Aside0 (Below w.heap.size w wc))
      case first =>
       rename_i z1_0_ z1_1_ z1_2_ z1_3_ z1_4_ z1_5_ z1_6_ z1_7_ z1_8_ z1_9_ z1_10_ z1_11_ z1_12_ z1_13_ z1_14_ z1_15_ z1_16_ z1_17_ z1_18_ z1_19_ z1_20_ z1_21_ z1_22_ z1_23_ z1_24_ z1_25_ z1_26_ z1_27_ z1_28_ z1_29_ z1_30_ z1_31_ z1_32_ z1_33_ z1_34_ z1_35_ z1_36_ z1_37_ z1_38_ z1_39_ z1_40_ z1_41_ z1_42_ z1_43_ z1_44_
       revert k a0_0 a0_1 A0_2 c0_2 l0_2 a1_0 a1_1 A1_2 c1_2 l1_2 a2 A3 c3 l3 r w hu24 hu41 HR0_2 HC0_2 HR1_2 HC1_2 HR3 HC3 HRT A5 z1_0_ gb212 w8 GW212 GE212 gb213 w9 GW213 GE213 NB212_213 NB213_212 w10 z1_1_ z1_2_ z1_3_ wc u27 u28 u29 u30 u31 u32 u33 u34 u35 u36 u37 u38 u39 u40 u41 u42 z1_4_ z1_5_ z1_6_ z1_7_ z1_8_ z1_9_ z1_10_ z1_11_ z1_12_ z1_13_ z1_14_ z1_15_ z1_16_ z1_17_ z1_18_ z1_19_ z1_20_ z1_21_ z1_22_ z1_23_ u64 u65 u66 u67 u68 u69 u70 u71 u72 u73 u74 u75 u76 u77 u78 u79 u80 u81 u82 u83 u84 u85 u86 u87 u88 u89 u90 u91 u92 u93 u94 u95 u96 u97 u98 u99 u100 u101 u102 u103 u104 u105 u106 u107 u108 u109 u110 u111 u112 u113 u114 u115 u116 u117 u118 u119 u120 u121 u122 u123 u124 u125 u126 u127 u128 u129 u130 u131 u132 u133 u134 u135 u136 u137 u138 u139 u140 u141 u142 u143 u144 u145 u146 u147 u148 u149 u150 u151 u152 u153 u154 u155 u156 u157 u158 u159 u160 u161 u162 u163 u164 u165 u166 z1_24_ z1_25_ z1_26_ kj6 HJ6 z1_27_ wr u44 u45 u46 u47 u48 u49 u50 u51 u52 u53 u54 u55 u56 u57 u58 u59 u60 u61 u62 u63 z1_28_ z1_29_ z1_30_ x9_2 x10_2 k2 z1_31_ HK2 c22b0 t220 t221 t222 A27 t225 t226 t227 A28 t232 t233 t234 t237 A29 t239 t240 t241 t244 A30 t246 t249 A31 t250 t253 A32 t254 t255 t256 t259 A33 t261 t262 t263 t266 A34 HC35 z1_32_ z1_33_ HT_ HW_ w36 z1_34_ gb230 gb231 w41 hS_ GW230 GE230 NB212_230 NB230_212 NB213_230 NB230_213 NB231_230 NB230_231 GW231 GE231 NB212_231 NB231_212 NB213_231 NB231_213 z1_35_ Ao44 co44 Ao48 co48 hs42 hfs42 hns42_0 hns42_1 hns42_3 hms42_0 hms42_1 hms42_3 hs43 hfs43 hns43_0 hns43_1 hns43_3 hms43_0 hms43_1 hms43_3 hs45 hfs45 hns45_0 hns45_1 hns45_3 hms45_0 hms45_1 hms45_3 z1_36_ hs46 hfs46 hns46_0 hns46_1 hns46_2 hms46_0 hms46_1 hms46_2 hs47 hfs47 hns47_0 hns47_1 hns47_2 hms47_0 hms47_1 hms47_2 hs49 hfs49 hns49_0 hns49_1 hns49_2 hms49_0 hms49_1 hms49_2 hHeld hnb50 hnc50 hnb51 hnc51 hnb52 hnc52 hcz53_0 hcz53_1 hcz53_2 hfz53_0 hfz53_1 hfz53_2 hnb54 hnc54 hnb55 hnc55 hcz56_0 hcz56_1 hcz56_2 hfz56_0 hfz56_1 hfz56_2 w57 gb238 w58 GW238 GE238 NB212_238 NB238_212 NB213_238 NB238_213 NB230_238 NB238_230 NB231_238 NB238_231 hnb59 hnc59 hnb60 hnc60 hnb61 hnc61 hnb62 hnc62 hcz63_0 hcz63_1 hcz63_2 hfz63_0 hfz63_1 hfz63_2 Ao64 co64 w65 hnb66 hnc66 hcz67_0 hcz67_1 hcz67_2 hfz67_0 hfz67_1 hfz67_2 hcz68_0 hcz68_1 hcz68_2 hfz68_0 hfz68_1 hfz68_2 w69 gb245 w70 GW245 GE245 NB212_245 NB245_212 NB213_245 NB245_213 NB230_245 NB245_230 NB231_245 NB245_231 NB238_245 NB245_238 hnb71 hnc71 hnb72 hnc72 hnb73 hnc73 hnb74 hnc74 hnb75 hnc75 hcz76_0 hcz76_1 hcz76_2 hfz76_0 hfz76_1 hfz76_2 Ao77 co77 hcz78_0 hcz78_1 hcz78_2 hfz78_0 hfz78_1 hfz78_2 hcz79_0 hcz79_1 hcz79_2 hfz79_0 hfz79_1 hfz79_2 w80 v247 hcz81_0 hcz81_1 hcz81_2 hfz81_0 hfz81_1 hfz81_2 hcz82_0 hcz82_1 hcz82_2 hfz82_0 hfz82_1 hfz82_2 w83 v251 hcz84_0 hcz84_1 hcz84_2 hfz84_0 hfz84_1 hfz84_2 w85 gb260 w86 GW260 GE260 NB212_260 NB260_212 NB213_260 NB260_213 NB230_260 NB260_230 NB231_260 NB260_231 NB238_260 NB260_238 NB245_260 NB260_245 hnb87 hnc87 hnb88 hnc88 hnb89 hnc89 hnb90 hnc90 hnb91 hnc91 hnb92 hnc92 hcz93_0 hcz93_1 hcz93_2 hfz93_0 hfz93_1 hfz93_2 Ao94 co94 hcz95_0 hcz95_1 hcz95_2 hfz95_0 hfz95_1 hfz95_2 Ao96 co96 w97 gb267 w98 HO_9 HO248 HO252 BK212 BK213 BK230 BK231 BK238 BK245 BK260 HB BK267 GW267 GE267 NB212_267 NB267_212 NB213_267 NB267_213 NB230_267 NB267_230 NB231_267 NB267_231 NB238_267 NB267_238 NB245_267 NB267_245 NB260_267 NB267_260 hnb99 hnc99 hnb100 hnc100 hnb101 hnc101 hnb102 hnc102 hnb103 hnc103 hnb104 hnc104 hnb105 hnc105 hcz106_0 hcz106_1 hcz106_2 hfz106_0 hfz106_1 hfz106_2 Ao107 co107 HO224 HO229 HO236 HO243 HO258 HO265 z1_37_ z1_38_ z1_39_ z1_40_ z1_41_ z1_42_ z1_43_ z1_44_
       exact hole1_.out
      case rest =>
       clear HC35
       try clear c1
       try clear c2
       try clear p2
       try clear c3
       try clear c5
       try clear c6
       try clear p6
       try clear c7
       try clear c8
       try clear c9
       try clear c10
       try clear c11
       try clear c12
       try clear c13
       try clear c14
       try clear c15
       try clear c16
       try clear c17
       try clear c18
       try clear c19
       try clear c20
       try clear c21
       try clear c22
       try clear c50
       try clear c51
       try clear c52
       try clear c54
       try clear c55
       try clear c59
       try clear c60
       try clear c61
       try clear c62
       try clear p64
       try clear c66
       try clear c71
       try clear c72
       try clear c73
       try clear c74
       try clear c75
       try clear c87
       try clear c88
       try clear c89
       try clear c90
       try clear c91
       try clear c92
       try clear c99
       try clear c100
       try clear c101
       try clear c102
       try clear c103
       try clear c104
       try clear c105
       try clear c108
       try clear c108b0
       try clear c108b1
       try clear c108b2
       try clear c110
       try clear c111
       try clear c111b0
       try clear c111b1
       try clear c111b2
       try clear c112
       try clear c113
       try clear c114
       try clear c115
       try clear c116
       try clear c117
       try clear c118
       try clear c120
       try clear c121
       try clear c122
       try clear c123
       try clear c124
       try clear c125
       try clear c129
       try clear c130
       try clear c130b0
       try clear c130b1
       try clear c132
       try clear c133
       try clear c134
       try clear c135
       try clear c136
       try clear c137
       try clear c138
       try clear c140
       try clear c141
       try clear c142
       try clear c143
       try clear c144
       try clear c145
       try clear c150
       try clear c151
       try clear c152
       try clear c153
       try clear c154
       try clear c156
       try clear c157
       try clear c158
       try clear c159
       try clear c162
       try clear c163
       try clear c164
       try clear c165
       try clear c166
       try clear c167
       try clear c168
       try clear c170
       try clear c171
       try clear c172
       try clear c173
       try clear c174
       try clear c175
       try clear c180
       try clear c181
       try clear c182
       try clear c183
       try clear c184
       try clear c185
       try clear c186
       try clear c188
       try clear c189
       try clear c190
       try clear c191
       try clear c192
       try clear c193
       try clear c198
       try clear c199
       try clear c200
       try clear c201
       try clear c202
       try clear c203
       try clear c204
       try clear c206
       try clear c207
       try clear c208
       try clear c209
       try clear c210
       try clear c211
       try clear hcz106_0
       try clear hcz106_1
       try clear hcz106_2
       try clear hcz119_0
       try clear hcz119_1
       try clear hcz119_2
       try clear hcz126_0
       try clear hcz126_1
       try clear hcz126_2
       try clear hcz139_0
       try clear hcz139_1
       try clear hcz139_2
       try clear hcz146_0
       try clear hcz146_1
       try clear hcz146_2
       try clear hcz155_0
       try clear hcz155_1
       try clear hcz155_2
       try clear hcz160_0
       try clear hcz160_1
       try clear hcz160_2
       try clear hcz169_0
       try clear hcz169_1
       try clear hcz169_2
       try clear hcz176_0
       try clear hcz176_1
       try clear hcz176_2
       try clear hcz187_0
       try clear hcz187_1
       try clear hcz187_2
       try clear hcz194_0
       try clear hcz194_1
       try clear hcz194_2
       try clear hcz205_0
       try clear hcz205_1
       try clear hcz205_2
       try clear hcz212_0
       try clear hcz212_1
       try clear hcz212_2
       try clear hcz53_0
       try clear hcz53_1
       try clear hcz53_2
       try clear hcz56_0
       try clear hcz56_1
       try clear hcz56_2
       try clear hcz63_0
       try clear hcz63_1
       try clear hcz63_2
       try clear hcz67_0
       try clear hcz67_1
       try clear hcz67_2
       try clear hcz68_0
       try clear hcz68_1
       try clear hcz68_2
       try clear hcz76_0
       try clear hcz76_1
       try clear hcz76_2
       try clear hcz78_0
       try clear hcz78_1
       try clear hcz78_2
       try clear hcz79_0
       try clear hcz79_1
       try clear hcz79_2
       try clear hcz81_0
       try clear hcz81_1
       try clear hcz81_2
       try clear hcz82_0
       try clear hcz82_1
       try clear hcz82_2
       try clear hcz84_0
       try clear hcz84_1
       try clear hcz84_2
       try clear hcz93_0
       try clear hcz93_1
       try clear hcz93_2
       try clear hcz95_0
       try clear hcz95_1
       try clear hcz95_2
       try clear hfz106_0
       try clear hfz106_1
       try clear hfz106_2
       try clear hfz119_0
       try clear hfz119_1
       try clear hfz119_2
       try clear hfz126_0
       try clear hfz126_1
       try clear hfz126_2
       try clear hfz139_0
       try clear hfz139_1
       try clear hfz139_2
       try clear hfz146_0
       try clear hfz146_1
       try clear hfz146_2
       try clear hfz155_0
       try clear hfz155_1
       try clear hfz155_2
       try clear hfz160_0
       try clear hfz160_1
       try clear hfz160_2
       try clear hfz169_0
       try clear hfz169_1
       try clear hfz169_2
       try clear hfz176_0
       try clear hfz176_1
       try clear hfz176_2
       try clear hfz187_0
       try clear hfz187_1
       try clear hfz187_2
       try clear hfz194_0
       try clear hfz194_1
       try clear hfz194_2
       try clear hfz205_0
       try clear hfz205_1
       try clear hfz205_2
       try clear hfz212_0
       try clear hfz212_1
       try clear hfz212_2
       try clear hfz53_0
       try clear hfz53_1
       try clear hfz53_2
       try clear hfz56_0
       try clear hfz56_1
       try clear hfz56_2
       try clear hfz63_0
       try clear hfz63_1
       try clear hfz63_2
       try clear hfz67_0
       try clear hfz67_1
       try clear hfz67_2
       try clear hfz68_0
       try clear hfz68_1
       try clear hfz68_2
       try clear hfz76_0
       try clear hfz76_1
       try clear hfz76_2
       try clear hfz78_0
       try clear hfz78_1
       try clear hfz78_2
       try clear hfz79_0
       try clear hfz79_1
       try clear hfz79_2
       try clear hfz81_0
       try clear hfz81_1
       try clear hfz81_2
       try clear hfz82_0
       try clear hfz82_1
       try clear hfz82_2
       try clear hfz84_0
       try clear hfz84_1
       try clear hfz84_2
       try clear hfz93_0
       try clear hfz93_1
       try clear hfz93_2
       try clear hfz95_0
       try clear hfz95_1
       try clear hfz95_2
       obtain ⟨kq, x136_34, rfl, HA, HJ34, HO_231002, HO_232002, HO_239002, HO_246002, HO_261002, HO_268002, BK212, BK213, BK230, BK231, BK238, BK245, BK260, BK267, HB⟩ := hcut
       cases kq with
       | zero => exact absurd HA.out (by simp [meterlaw18_SpreadTells.j2])
       | succ kj34 =>
        have H := HA.out
        clear HA
        simp only [meterlaw18_SpreadTells.j2] at H
        by_cases c214 : x136_34 = true
        · subst c214
          have H1 : (some false) = some r := by rw [if_pos rfl] at H; exact H
          clear H
          have H := H1
          clear H1
          exact absurd (H.trans (congrArg some HRT.out)) (by simp)
        replace c214 := Bool.eq_false_iff.mpr c214
        subst c214
        have H1 : (meterlaw18_SpreadTells.l1 kj34 0 a0_0 a0_1 l0_2 a1_0 a1_1 l1_2 t220 t221 t222 t225 t226 t227 t232 t233 t234 t254 t255 t256) = some r := by rw [if_neg (show ¬ (false = true) by decide)] at H; exact H
        clear H
        have H := H1
        clear H1
        have H' := qM H
        clear H
        go_wp2
        go_loopg [25] kj34 (fun kq v25 w' => ∃ (x25_4 : Int) (x231002_4 : List Int) (x232002_4 : List Int) (x239002_4 : List Int) (x246002_4 : List Int) (x261002_4 : List Int) (x268002_4 : List Int) (u231002 : Value) (u232002 : Value) (u239002 : Value) (u246002 : Value) (u261002 : Value) (u268002 : Value), v25 = .int .i64 x25_4 ∧ Aside0 (meterlaw18_SpreadTells.l1 kq x25_4 a0_0 a0_1 l0_2 a1_0 a1_1 l1_2 t220 t221 x231002_4 t225 t226 x232002_4 t232 t233 x239002_4 t254 t255 x261002_4 = some r) ∧ Aside0 (kq ≤ kj34) ∧ Aside0 (Kd.R (Kd.int .i64) 3 w' w.heap.size (fun k_ => some k_ ≠ (u232002 : Value).ownBlock ∧ some k_ ≠ (u239002 : Value).ownBlock ∧ some k_ ≠ (u261002 : Value).ownBlock ∧ some k_ ≠ (u268002 : Value).ownBlock) u231002 x231002_4) ∧ Aside0 (Kd.R (Kd.int .i64) 3 w' w.heap.size (fun k_ => some k_ ≠ (u231002 : Value).ownBlock ∧ some k_ ≠ (u239002 : Value).ownBlock ∧ some k_ ≠ (u261002 : Value).ownBlock ∧ some k_ ≠ (u268002 : Value).ownBlock) u232002 x232002_4) ∧ Aside0 (Kd.R (Kd.int .i64) 3 w' w.heap.size (fun k_ => some k_ ≠ (u231002 : Value).ownBlock ∧ some k_ ≠ (u232002 : Value).ownBlock ∧ some k_ ≠ (u261002 : Value).ownBlock ∧ some k_ ≠ (u268002 : Value).ownBlock) u239002 x239002_4) ∧ Aside0 (Kd.V (Kd.int .i64) 3 w' w.heap.size (fun k_ => some k_ ≠ (u231002 : Value).ownBlock ∧ some k_ ≠ (u232002 : Value).ownBlock ∧ some k_ ≠ (u239002 : Value).ownBlock ∧ some k_ ≠ (u261002 : Value).ownBlock ∧ some k_ ≠ (u268002 : Value).ownBlock ∧ k_ ≠ gb212 ∧ k_ ≠ gb213 ∧ k_ ≠ gb230 ∧ k_ ≠ gb231 ∧ k_ ≠ gb238 ∧ k_ ≠ gb245 ∧ k_ ≠ gb260 ∧ k_ ≠ gb267) u246002 x246002_4) ∧ Aside0 (Kd.R (Kd.int .i64) 3 w' w.heap.size (fun k_ => some k_ ≠ (u231002 : Value).ownBlock ∧ some k_ ≠ (u232002 : Value).ownBlock ∧ some k_ ≠ (u239002 : Value).ownBlock ∧ some k_ ≠ (u268002 : Value).ownBlock) u261002 x261002_4) ∧ Aside0 (Kd.R (Kd.int .i64) 3 w' w.heap.size (fun k_ => some k_ ≠ (u231002 : Value).ownBlock ∧ some k_ ≠ (u232002 : Value).ownBlock ∧ some k_ ≠ (u239002 : Value).ownBlock ∧ some k_ ≠ (u261002 : Value).ownBlock) u268002 x268002_4) ∧ Aside0 (w'.heap[gb212]? = some (.cells #[.int .i64 a0_0, .int .i64 a0_1, (.slice A0_2 l0_2.length c0_2)] 24 (0, 0))) ∧ Aside0 (w'.heap[gb213]? = some (.cells #[.int .i64 a1_0, .int .i64 a1_1, (.slice A1_2 l1_2.length c1_2)] 24 (0, 0))) ∧ Aside0 (w'.heap[gb230]? = some (.cells #[.int .i64 t220, .int .i64 t221, u231002] 24 (0, 0))) ∧ Aside0 (w'.heap[gb231]? = some (.cells #[.int .i64 t225, .int .i64 t226, u232002] 24 (0, 0))) ∧ Aside0 (w'.heap[gb238]? = some (.cells #[.int .i64 t232, .int .i64 t233, u239002] 24 (0, 0))) ∧ Aside0 (w'.heap[gb245]? = some (.cells #[.int .i64 t239, .int .i64 t240, u246002] 24 (0, 0))) ∧ Aside0 (w'.heap[gb260]? = some (.cells #[.int .i64 t254, .int .i64 t255, u261002] 24 (0, 0))) ∧ Aside0 (w'.heap[gb267]? = some (.cells #[.int .i64 t261, .int .i64 t262, u268002] 24 (0, 0))) ∧ Aside0 (Below w.heap.size w w'))
        case atStart => exact ⟨(0), (t222), (t227), (t234), (t241), (t256), (t263), (.slice Ao44 t222.length co44), (.slice Ao48 t227.length co48), (.slice Ao64 t234.length co64), (.slice Ao77 t241.length co77), (.slice Ao94 t256.length co94), (.slice Ao107 t263.length co107), (by first | rfl | (simp; done) | (simp [*]; done) | (congr 1; simp only [eq_iff_iff, iff_true, ByteArray.size_append] at *; unfold wrap64; omega) | (congr 2; simp only [eq_iff_iff, iff_true, ByteArray.size_append] at *; unfold wrap64; omega)), H', ⟨Nat.le_refl _⟩, ⟨by (with_reducible repeat (first | apply Kd.R_alloc | apply Kd.R_drewN | apply Kd.R_drew)); exact HO_231002.out⟩, ⟨by (with_reducible repeat (first | apply Kd.R_alloc | apply Kd.R_drewN | apply Kd.R_drew)); exact HO_232002.out⟩, ⟨by (with_reducible repeat (first | apply Kd.R_alloc | apply Kd.R_drewN | apply Kd.R_drew)); exact HO_239002.out⟩, ⟨by (with_reducible repeat (first | apply Kd.V_alloc | apply Kd.V_drewN | apply Kd.V_drew)); exact HO_246002.out⟩, ⟨by (with_reducible repeat (first | apply Kd.R_alloc | apply Kd.R_drewN | apply Kd.R_drew)); exact HO_261002.out⟩, ⟨by (with_reducible repeat (first | apply Kd.R_alloc | apply Kd.R_drewN | apply Kd.R_drew)); exact HO_268002.out⟩, ⟨by (with_reducible repeat (first | apply bN | apply bD | apply bA)); exact BK212.out⟩, ⟨by (with_reducible repeat (first | apply bN | apply bD | apply bA)); exact BK213.out⟩, ⟨by (with_reducible repeat (first | apply bN | apply bD | apply bA)); exact BK230.out⟩, ⟨by (with_reducible repeat (first | apply bN | apply bD | apply bA)); exact BK231.out⟩, ⟨by (with_reducible repeat (first | apply bN | apply bD | apply bA)); exact BK238.out⟩, ⟨by (with_reducible repeat (first | apply bN | apply bD | apply bA)); exact BK245.out⟩, ⟨by (with_reducible repeat (first | apply bN | apply bD | apply bA)); exact BK260.out⟩, ⟨by (with_reducible repeat (first | apply bN | apply bD | apply bA)); exact BK267.out⟩, ⟨by repeat (first | (with_reducible first | exact HB.out | apply below_alloc | apply pw_below_drewN | apply below_drew1 | refine below_set ?_ GE212.out | refine below_set ?_ GE213.out | refine below_set ?_ GE230.out | refine below_set ?_ GE231.out | refine below_set ?_ GE238.out | refine below_set ?_ GE245.out | refine below_set ?_ GE260.out | refine below_set ?_ GE267.out) | exact HB.out)⟩⟩
        case round =>
         clear H'
         try clear c1
         try clear c2
         try clear p2
         try clear c3
         try clear c5
         try clear c6
         try clear p6
         try clear c7
         try clear c8
         try clear c9
         try clear c10
         try clear c11
         try clear c12
         try clear c13
         try clear c14
         try clear c15
         try clear c16
         try clear c17
         try clear c18
         try clear c19
         try clear c20
         try clear c21
         try clear c22
         try clear c50
         try clear c51
         try clear c52
         try clear c54
         try clear c55
         try clear c59
         try clear c60
         try clear c61
         try clear c62
         try clear p64
         try clear c66
         try clear c71
         try clear c72
         try clear c73
         try clear c74
         try clear c75
         try clear c87
         try clear c88
         try clear c89
         try clear c90
         try clear c91
         try clear c92
         try clear c99
         try clear c100
         try clear c101
         try clear c102
         try clear c103
         try clear c104
         try clear c105
         try clear c108
         try clear c108b0
         try clear c108b1
         try clear c108b2
         try clear c110
         try clear c111
         try clear c111b0
         try clear c111b1
         try clear c111b2
         try clear c112
         try clear c113
         try clear c114
         try clear c115
         try clear c116
         try clear c117
         try clear c118
         try clear c120
         try clear c121
         try clear c122
         try clear c123
         try clear c124
         try clear c125
         try clear c129
         try clear c130
         try clear c130b0
         try clear c130b1
         try clear c132
         try clear c133
         try clear c134
         try clear c135
         try clear c136
         try clear c137
         try clear c138
         try clear c140
         try clear c141
         try clear c142
         try clear c143
         try clear c144
         try clear c145
         try clear c150
         try clear c151
         try clear c152
         try clear c153
         try clear c154
         try clear c156
         try clear c157
         try clear c158
         try clear c159
         try clear c162
         try clear c163
         try clear c164
         try clear c165
         try clear c166
         try clear c167
         try clear c168
         try clear c170
         try clear c171
         try clear c172
         try clear c173
         try clear c174
         try clear c175
         try clear c180
         try clear c181
         try clear c182
         try clear c183
         try clear c184
         try clear c185
         try clear c186
         try clear c188
         try clear c189
         try clear c190
         try clear c191
         try clear c192
         try clear c193
         try clear c198
         try clear c199
         try clear c200
         try clear c201
         try clear c202
         try clear c203
         try clear c204
         try clear c206
         try clear c207
         try clear c208
         try clear c209
         try clear c210
         try clear c211
         try clear c214
         try clear hcz106_0
         try clear hcz106_1
         try clear hcz106_2
         try clear hcz119_0
         try clear hcz119_1
         try clear hcz119_2
         try clear hcz126_0
         try clear hcz126_1
         try clear hcz126_2
         try clear hcz139_0
         try clear hcz139_1
         try clear hcz139_2
         try clear hcz146_0
         try clear hcz146_1
         try clear hcz146_2
         try clear hcz155_0
         try clear hcz155_1
         try clear hcz155_2
         try clear hcz160_0
         try clear hcz160_1
         try clear hcz160_2
         try clear hcz169_0
         try clear hcz169_1
         try clear hcz169_2
         try clear hcz176_0
         try clear hcz176_1
         try clear hcz176_2
         try clear hcz187_0
         try clear hcz187_1
         try clear hcz187_2
         try clear hcz194_0
         try clear hcz194_1
         try clear hcz194_2
         try clear hcz205_0
         try clear hcz205_1
         try clear hcz205_2
         try clear hcz212_0
         try clear hcz212_1
         try clear hcz212_2
         try clear hcz53_0
         try clear hcz53_1
         try clear hcz53_2
         try clear hcz56_0
         try clear hcz56_1
         try clear hcz56_2
         try clear hcz63_0
         try clear hcz63_1
         try clear hcz63_2
         try clear hcz67_0
         try clear hcz67_1
         try clear hcz67_2
         try clear hcz68_0
         try clear hcz68_1
         try clear hcz68_2
         try clear hcz76_0
         try clear hcz76_1
         try clear hcz76_2
         try clear hcz78_0
         try clear hcz78_1
         try clear hcz78_2
         try clear hcz79_0
         try clear hcz79_1
         try clear hcz79_2
         try clear hcz81_0
         try clear hcz81_1
         try clear hcz81_2
         try clear hcz82_0
         try clear hcz82_1
         try clear hcz82_2
         try clear hcz84_0
         try clear hcz84_1
         try clear hcz84_2
         try clear hcz93_0
         try clear hcz93_1
         try clear hcz93_2
         try clear hcz95_0
         try clear hcz95_1
         try clear hcz95_2
         try clear hfz106_0
         try clear hfz106_1
         try clear hfz106_2
         try clear hfz119_0
         try clear hfz119_1
         try clear hfz119_2
         try clear hfz126_0
         try clear hfz126_1
         try clear hfz126_2
         try clear hfz139_0
         try clear hfz139_1
         try clear hfz139_2
         try clear hfz146_0
         try clear hfz146_1
         try clear hfz146_2
         try clear hfz155_0
         try clear hfz155_1
         try clear hfz155_2
         try clear hfz160_0
         try clear hfz160_1
         try clear hfz160_2
         try clear hfz169_0
         try clear hfz169_1
         try clear hfz169_2
         try clear hfz176_0
         try clear hfz176_1
         try clear hfz176_2
         try clear hfz187_0
         try clear hfz187_1
         try clear hfz187_2
         try clear hfz194_0
         try clear hfz194_1
         try clear hfz194_2
         try clear hfz205_0
         try clear hfz205_1
         try clear hfz205_2
         try clear hfz212_0
         try clear hfz212_1
         try clear hfz212_2
         try clear hfz53_0
         try clear hfz53_1
         try clear hfz53_2
         try clear hfz56_0
         try clear hfz56_1
         try clear hfz56_2
         try clear hfz63_0
         try clear hfz63_1
         try clear hfz63_2
         try clear hfz67_0
         try clear hfz67_1
         try clear hfz67_2
         try clear hfz68_0
         try clear hfz68_1
         try clear hfz68_2
         try clear hfz76_0
         try clear hfz76_1
         try clear hfz76_2
         try clear hfz78_0
         try clear hfz78_1
         try clear hfz78_2
         try clear hfz79_0
         try clear hfz79_1
         try clear hfz79_2
         try clear hfz81_0
         try clear hfz81_1
         try clear hfz81_2
         try clear hfz82_0
         try clear hfz82_1
         try clear hfz82_2
         try clear hfz84_0
         try clear hfz84_1
         try clear hfz84_2
         try clear hfz93_0
         try clear hfz93_1
         try clear hfz93_2
         try clear hfz95_0
         try clear hfz95_1
         try clear hfz95_2
         try clear p2
         try clear p6
         try clear p64
         obtain ⟨x25_4, x231002_4, x232002_4, x239002_4, x246002_4, x261002_4, x268002_4, u231002, u232002, u239002, u246002, u261002, u268002, rfl, HA, HK4, HO_231002, HO_232002, HO_239002, HO_246002, HO_261002, HO_268002, BK212, BK213, BK230, BK231, BK238, BK245, BK260, BK267, HB⟩ := hrel
         cases gk with
         | zero => exact absurd HA.out (by simp [meterlaw18_SpreadTells.l1])
         | succ k4 =>
          have H := HA.out
          clear HA
          simp only [meterlaw18_SpreadTells.l1] at H
          by_cases c215 : x25_4 < (x239002_4.length : Int)
          · rw [if_pos c215] at H
            have c215b0 : decide (x25_4 < (x239002_4.length : Int)) = true := decide_eq_true c215
            clear c215
            by_cases c216 : 0 ≤ x25_4
            · rw [if_pos c216] at H
              have c216b0 : decide (0 ≤ x25_4) = true := decide_eq_true c216
              clear c216
              obtain ⟨y271, hy271⟩ : ∃ y_ : List Int, y_ = (x239002_4.set (x25_4 : Int).toNat 99) := ⟨_, rfl⟩
              replace H : (meterlaw18_SpreadTells.l1 k4 (wrap64 (x25_4 + 1)) a0_0 a0_1 l0_2 a1_0 a1_1 l1_2 t220 t221 x231002_4 t225 t226 x232002_4 t232 t233 y271 t254 t255 x261002_4) = some r := by first | (rw [hy271]; with_reducible exact H) | (have H2_ := (Option.bind_some _ _).symm.trans H; rw [hy271]; with_reducible exact H2_) | (have H2_ := (Option.bind_some _ _).symm.trans H; with_reducible exact H2_) | with_reducible exact H | (rw [hy271]; exact H) | exact H
              have Ny271 := qM hy271
              clear hy271
              have H' := qM H
              clear H
              have hnb218 := NB238_212.out
              have hnc218 := NB212_238.out
              have hnb219 := NB238_213.out
              have hnc219 := NB213_238.out
              have hnb220 := NB238_230.out
              have hnc220 := NB230_238.out
              have hnb221 := NB238_231.out
              have hnc221 := NB231_238.out
              have hnb222 := NB238_245.out
              have hnc222 := NB245_238.out
              have hnb223 := NB238_260.out
              have hnc223 := NB260_238.out
              have hnb224 := NB238_267.out
              have hnc224 := NB267_238.out
              have hcz225_0 : wr.cell? ⟨gb238, 0, none⟩ = some (.int .i64 t232) := (blk_cell BK238.out 0).trans rfl
              have hcz225_1 : wr.cell? ⟨gb238, 1, none⟩ = some (.int .i64 t233) := (blk_cell BK238.out 1).trans rfl
              have hcz225_2 : wr.cell? ⟨gb238, 2, none⟩ = some (u239002) := (blk_cell BK238.out 2).trans rfl
              have hfz225_0 := blk_frozen BK238.out 0
              have hfz225_1 := blk_frozen BK238.out 1
              have hfz225_2 := blk_frozen BK238.out 2
              obtain ⟨Ao226, co226, eo226⟩ := Kd.R_slice HO_239002.out
              subst eo226
              have p217 : 0 ≤ (x25_4 : Int) := of_decide_eq_true (by first | (with_reducible assumption) | assumption)
              have q217 : (x25_4 : Int) < ((x239002_4.length : Int) : Int) := of_decide_eq_true (by first | (with_reducible assumption) | assumption)
              obtain ⟨go217, co217, eo217, gb217, gl217, cl217, HG217⟩ := Kd.R_form HO_239002.out (by omega)
              (first | cases eo217 | (injection eo217 with ea_ en_ ec_; (first | subst ea_ | (injection ea_ with ea_; subst ea_)); subst ec_; clear en_))
              have GB217 := qM gb217
              have GG217 := qM HG217
              clear gb217 gl217 HG217
              obtain ⟨hx217_0, hf217_0⟩ := Kd.R_celln 0 HO_239002.out (x25_4 : Int) p217 q217
              replace p217 := eq_true p217
              replace q217 := eq_true q217
              have HP227 := Kd.R_putg HO_239002.out (x25_4 : Int) 99
              go_wp2_with (first | ((with_reducible refine gate_store (t := 3) (p := 147) rfl ?_); refine store_event (t := 3) (p := 147) (v := ?vo_w228) (w1 := (wr.setCell ⟨go217, (x25_4 : Int).toNat, none⟩ (.int .i64 99))) ?hg ?ho ?hn ?hr ?_; (case ho => rfl); (case hg => rfl); (case hn => rfl); (case hr => first | (go_simp; done) | (go_simp; rfl)); intro w228 hw; have hg : wr.grownBy w228 (some go217) := (by rw [hw]; exact HP227.2); have hp_ : Kd.R (Kd.int .i64) 3 w228 w.heap.size (fun k_ => some k_ ≠ (u231002 : Value).ownBlock ∧ some k_ ≠ (u232002 : Value).ownBlock ∧ some k_ ≠ (u261002 : Value).ownBlock ∧ some k_ ≠ (u268002 : Value).ownBlock) (.slice (some ⟨go217, 0, none⟩) x239002_4.length co226) y271 := (by rw [hw, Ny271.out]; exact HP227.1); clear HP227; have n0_ := qM (Kd.R_after (v := (.slice (some ⟨go217, 0, none⟩) x239002_4.length co226)) (v1 := (.slice (some ⟨go217, 0, none⟩) x239002_4.length co226)) (ok := (fun k_ => some k_ ≠ (u232002 : Value).ownBlock ∧ some k_ ≠ (u261002 : Value).ownBlock ∧ some k_ ≠ (u268002 : Value).ownBlock)) (by (with_reducible repeat (first | apply Kd.R_alloc | apply Kd.R_drewN | apply Kd.R_drew)); exact Kd.R_mono HO_231002.out (fun _ hk => ⟨⟨hk.1, ⟨hk.2.2.1, hk.2.2.2⟩⟩, hk.2.1⟩)) hg (.inl rfl)); have n1_ := qM (Kd.R_after (v := (.slice (some ⟨go217, 0, none⟩) x239002_4.length co226)) (v1 := (.slice (some ⟨go217, 0, none⟩) x239002_4.length co226)) (ok := (fun k_ => some k_ ≠ (u231002 : Value).ownBlock ∧ some k_ ≠ (u261002 : Value).ownBlock ∧ some k_ ≠ (u268002 : Value).ownBlock)) (by (with_reducible repeat (first | apply Kd.R_alloc | apply Kd.R_drewN | apply Kd.R_drew)); exact Kd.R_mono HO_232002.out (fun _ hk => ⟨⟨hk.1, ⟨hk.2.2.1, hk.2.2.2⟩⟩, hk.2.1⟩)) hg (.inl rfl)); have n2_ := qM (hp_); have n3_ := qM (Kd.V_afterv (v := (.slice (some ⟨go217, 0, none⟩) x239002_4.length co226)) (v1 := (.slice (some ⟨go217, 0, none⟩) x239002_4.length co226)) (ok := (fun k_ => some k_ ≠ (u231002 : Value).ownBlock ∧ some k_ ≠ (u232002 : Value).ownBlock ∧ some k_ ≠ (u261002 : Value).ownBlock ∧ some k_ ≠ (u268002 : Value).ownBlock ∧ k_ ≠ gb212 ∧ k_ ≠ gb213 ∧ k_ ≠ gb230 ∧ k_ ≠ gb231 ∧ k_ ≠ gb238 ∧ k_ ≠ gb245 ∧ k_ ≠ gb260 ∧ k_ ≠ gb267)) (by (with_reducible repeat (first | apply Kd.V_alloc | apply Kd.V_drewN | apply Kd.V_drew)); exact Kd.V_mono HO_246002.out (fun _ hk => ⟨⟨hk.1, ⟨hk.2.1, ⟨hk.2.2.2.1, ⟨hk.2.2.2.2.1, ⟨hk.2.2.2.2.2.1, ⟨hk.2.2.2.2.2.2.1, ⟨hk.2.2.2.2.2.2.2.1, ⟨hk.2.2.2.2.2.2.2.2.1, ⟨hk.2.2.2.2.2.2.2.2.2.1, ⟨hk.2.2.2.2.2.2.2.2.2.2.1, ⟨hk.2.2.2.2.2.2.2.2.2.2.2.1, hk.2.2.2.2.2.2.2.2.2.2.2.2⟩⟩⟩⟩⟩⟩⟩⟩⟩⟩⟩, hk.2.2.1⟩)) hg (.inl rfl)); have n4_ := qM (Kd.R_after (v := (.slice (some ⟨go217, 0, none⟩) x239002_4.length co226)) (v1 := (.slice (some ⟨go217, 0, none⟩) x239002_4.length co226)) (ok := (fun k_ => some k_ ≠ (u231002 : Value).ownBlock ∧ some k_ ≠ (u232002 : Value).ownBlock ∧ some k_ ≠ (u268002 : Value).ownBlock)) (by (with_reducible repeat (first | apply Kd.R_alloc | apply Kd.R_drewN | apply Kd.R_drew)); exact Kd.R_mono HO_261002.out (fun _ hk => ⟨⟨hk.1, ⟨hk.2.1, hk.2.2.2⟩⟩, hk.2.2.1⟩)) hg (.inl rfl)); have n5_ := qM (Kd.R_after (v := (.slice (some ⟨go217, 0, none⟩) x239002_4.length co226)) (v1 := (.slice (some ⟨go217, 0, none⟩) x239002_4.length co226)) (ok := (fun k_ => some k_ ≠ (u231002 : Value).ownBlock ∧ some k_ ≠ (u232002 : Value).ownBlock ∧ some k_ ≠ (u261002 : Value).ownBlock)) (by (with_reducible repeat (first | apply Kd.R_alloc | apply Kd.R_drewN | apply Kd.R_drew)); exact Kd.R_mono HO_268002.out (fun _ hk => ⟨⟨hk.1, ⟨hk.2.1, hk.2.2.2⟩⟩, hk.2.2.1⟩)) hg (.inl rfl)); have n6_ := qM (blk_grown (g := gb212) (o := .cells #[.int .i64 a0_0, .int .i64 a0_1, .slice A0_2 l0_2.length c0_2] 24 (0, 0)) (by (with_reducible repeat (first | apply bN | apply bD | apply bA)); exact BK212.out) hg (Kd.R_ne HO_239002.out BK212.out (by decide))); have n7_ := qM (blk_grown (g := gb213) (o := .cells #[.int .i64 a1_0, .int .i64 a1_1, .slice A1_2 l1_2.length c1_2] 24 (0, 0)) (by (with_reducible repeat (first | apply bN | apply bD | apply bA)); exact BK213.out) hg (Kd.R_ne HO_239002.out BK213.out (by decide))); have n8_ := qM (blk_grown (g := gb230) (o := .cells #[.int .i64 t220, .int .i64 t221, u231002] 24 (0, 0)) (by (with_reducible repeat (first | apply bN | apply bD | apply bA)); exact BK230.out) hg (Kd.R_ne HO_239002.out BK230.out (by decide))); have n9_ := qM (blk_grown (g := gb231) (o := .cells #[.int .i64 t225, .int .i64 t226, u232002] 24 (0, 0)) (by (with_reducible repeat (first | apply bN | apply bD | apply bA)); exact BK231.out) hg (Kd.R_ne HO_239002.out BK231.out (by decide))); have n10_ := qM (blk_grown (g := gb238) (o := .cells #[.int .i64 t232, .int .i64 t233, .slice (some ⟨go217, 0, none⟩) x239002_4.length co226] 24 (0, 0)) (by (with_reducible repeat (first | apply bN | apply bD | apply bA)); exact BK238.out) hg (Kd.R_ne HO_239002.out BK238.out (by decide))); have n11_ := qM (blk_grown (g := gb245) (o := .cells #[.int .i64 t239, .int .i64 t240, u246002] 24 (0, 0)) (by (with_reducible repeat (first | apply bN | apply bD | apply bA)); exact BK245.out) hg (Kd.R_ne HO_239002.out BK245.out (by decide))); have n12_ := qM (blk_grown (g := gb260) (o := .cells #[.int .i64 t254, .int .i64 t255, u261002] 24 (0, 0)) (by (with_reducible repeat (first | apply bN | apply bD | apply bA)); exact BK260.out) hg (Kd.R_ne HO_239002.out BK260.out (by decide))); have n13_ := qM (blk_grown (g := gb267) (o := .cells #[.int .i64 t261, .int .i64 t262, u268002] 24 (0, 0)) (by (with_reducible repeat (first | apply bN | apply bD | apply bA)); exact BK267.out) hg (Kd.R_ne HO_239002.out BK267.out (by decide))); have n14_ := qM ((by rw [hw]; exact below_set (HB.out) GB217.out : Below w.heap.size w w228)); clear HO_231002; clear HO_232002; clear HO_239002; clear HO_246002; clear HO_261002; clear HO_268002; clear BK212; clear BK213; clear BK230; clear BK231; clear BK238; clear BK245; clear BK260; clear BK267; clear HB; have HO_231002 := n0_; have HO_232002 := n1_; have HO_239002 := n2_; have HO_246002 := n3_; have HO_261002 := n4_; have HO_268002 := n5_; have BK212 := n6_; have BK213 := n7_; have BK230 := n8_; have BK231 := n9_; have BK238 := n10_; have BK245 := n11_; have BK260 := n12_; have BK267 := n13_; have HB := n14_; clear n0_ n1_ n2_ n3_ n4_ n5_ n6_ n7_ n8_ n9_ n10_ n11_ n12_ n13_ n14_; clear hg hw hp_))
              go_roundg k4
              case measure => have := HJ6.out; have := HK2.out; have := HJ34.out; have := HK4.out; omega
              case rel => exact ⟨(wrap64 (x25_4 + 1)), (x231002_4), (x232002_4), (y271), (x246002_4), (x261002_4), (x268002_4), (u231002), (u232002), (.slice (some ⟨go217, 0, none⟩) x239002_4.length co226), (u246002), (u261002), (u268002), (by first | rfl | (simp; done) | (simp [*]; done) | (congr 1; simp only [eq_iff_iff, iff_true, ByteArray.size_append] at *; unfold wrap64; omega) | (congr 2; simp only [eq_iff_iff, iff_true, ByteArray.size_append] at *; unfold wrap64; omega)), H', ⟨by have := HJ6.out; have := HK2.out; have := HJ34.out; have := HK4.out; omega⟩, ⟨by (with_reducible repeat (first | apply Kd.R_alloc | apply Kd.R_drewN | apply Kd.R_drew)); exact Kd.R_mono HO_231002.out (fun _ hk => ⟨hk.1.1, ⟨hk.2, ⟨hk.1.2.1, hk.1.2.2⟩⟩⟩)⟩, ⟨by (with_reducible repeat (first | apply Kd.R_alloc | apply Kd.R_drewN | apply Kd.R_drew)); exact Kd.R_mono HO_232002.out (fun _ hk => ⟨hk.1.1, ⟨hk.2, ⟨hk.1.2.1, hk.1.2.2⟩⟩⟩)⟩, ⟨by (with_reducible repeat (first | apply Kd.R_alloc | apply Kd.R_drewN | apply Kd.R_drew)); exact HO_239002.out⟩, ⟨by (with_reducible repeat (first | apply Kd.V_alloc | apply Kd.V_drewN | apply Kd.V_drew)); exact Kd.V_mono HO_246002.out (fun _ hk => ⟨hk.1.1, ⟨hk.1.2.1, ⟨hk.2, ⟨hk.1.2.2.1, ⟨hk.1.2.2.2.1, ⟨hk.1.2.2.2.2.1, ⟨hk.1.2.2.2.2.2.1, ⟨hk.1.2.2.2.2.2.2.1, ⟨hk.1.2.2.2.2.2.2.2.1, ⟨hk.1.2.2.2.2.2.2.2.2.1, ⟨hk.1.2.2.2.2.2.2.2.2.2.1, ⟨hk.1.2.2.2.2.2.2.2.2.2.2.1, hk.1.2.2.2.2.2.2.2.2.2.2.2⟩⟩⟩⟩⟩⟩⟩⟩⟩⟩⟩⟩)⟩, ⟨by (with_reducible repeat (first | apply Kd.R_alloc | apply Kd.R_drewN | apply Kd.R_drew)); exact Kd.R_mono HO_261002.out (fun _ hk => ⟨hk.1.1, ⟨hk.1.2.1, ⟨hk.2, hk.1.2.2⟩⟩⟩)⟩, ⟨by (with_reducible repeat (first | apply Kd.R_alloc | apply Kd.R_drewN | apply Kd.R_drew)); exact Kd.R_mono HO_268002.out (fun _ hk => ⟨hk.1.1, ⟨hk.1.2.1, ⟨hk.2, hk.1.2.2⟩⟩⟩)⟩, ⟨by (with_reducible repeat (first | apply bN | apply bD | apply bA)); exact BK212.out⟩, ⟨by (with_reducible repeat (first | apply bN | apply bD | apply bA)); exact BK213.out⟩, ⟨by (with_reducible repeat (first | apply bN | apply bD | apply bA)); exact BK230.out⟩, ⟨by (with_reducible repeat (first | apply bN | apply bD | apply bA)); exact BK231.out⟩, ⟨by (with_reducible repeat (first | apply bN | apply bD | apply bA)); exact BK238.out⟩, ⟨by (with_reducible repeat (first | apply bN | apply bD | apply bA)); exact BK245.out⟩, ⟨by (with_reducible repeat (first | apply bN | apply bD | apply bA)); exact BK260.out⟩, ⟨by (with_reducible repeat (first | apply bN | apply bD | apply bA)); exact BK267.out⟩, ⟨by repeat (first | (with_reducible first | exact HB.out | apply below_alloc | apply pw_below_drewN | apply below_drew1 | refine below_set ?_ GE212.out | refine below_set ?_ GE213.out | refine below_set ?_ GE230.out | refine below_set ?_ GE231.out | refine below_set ?_ GE238.out | refine below_set ?_ GE245.out | refine below_set ?_ GE260.out | refine below_set ?_ GE267.out) | exact HB.out)⟩⟩
            rw [if_neg c216] at H
            exact absurd H (by simp)
          rw [if_neg c215] at H
          have c215b0 : decide (x25_4 < (x239002_4.length : Int)) = false := decide_eq_false c215
          clear c215
          have H' := qM H
          clear H
          have hnb229 := NB238_212.out
          have hnc229 := NB212_238.out
          have hnb230 := NB238_213.out
          have hnc230 := NB213_238.out
          have hnb231 := NB238_230.out
          have hnc231 := NB230_238.out
          have hnb232 := NB238_231.out
          have hnc232 := NB231_238.out
          have hnb233 := NB238_245.out
          have hnc233 := NB245_238.out
          have hnb234 := NB238_260.out
          have hnc234 := NB260_238.out
          have hnb235 := NB238_267.out
          have hnc235 := NB267_238.out
          have hcz236_0 : wr.cell? ⟨gb238, 0, none⟩ = some (.int .i64 t232) := (blk_cell BK238.out 0).trans rfl
          have hcz236_1 : wr.cell? ⟨gb238, 1, none⟩ = some (.int .i64 t233) := (blk_cell BK238.out 1).trans rfl
          have hcz236_2 : wr.cell? ⟨gb238, 2, none⟩ = some (u239002) := (blk_cell BK238.out 2).trans rfl
          have hfz236_0 := blk_frozen BK238.out 0
          have hfz236_1 := blk_frozen BK238.out 1
          have hfz236_2 := blk_frozen BK238.out 2
          obtain ⟨Ao237, co237, eo237⟩ := Kd.R_slice HO_239002.out
          subst eo237
          go_wp2
          go_loopg [26] k4 (fun kq v26 w' => ∃ (x26_5 : Int) (x231002_5 : List Int) (x232002_5 : List Int) (x239002_5 : List Int) (x246002_5 : List Int) (x261002_5 : List Int) (x268002_5 : List Int) (u231002 : Value) (u232002 : Value) (u239002 : Value) (u246002 : Value) (u261002 : Value) (u268002 : Value), v26 = .int .i64 x26_5 ∧ Aside0 (meterlaw18_SpreadTells.l2 kq x26_5 a0_0 a0_1 l0_2 a1_0 a1_1 l1_2 t220 t221 x231002_5 t225 t226 x232002_5 t254 t255 x261002_5 = some r) ∧ Aside0 (kq ≤ k4) ∧ Aside0 (Kd.R (Kd.int .i64) 3 w' w.heap.size (fun k_ => some k_ ≠ (u232002 : Value).ownBlock ∧ some k_ ≠ (u239002 : Value).ownBlock ∧ some k_ ≠ (u261002 : Value).ownBlock ∧ some k_ ≠ (u268002 : Value).ownBlock) u231002 x231002_5) ∧ Aside0 (Kd.R (Kd.int .i64) 3 w' w.heap.size (fun k_ => some k_ ≠ (u231002 : Value).ownBlock ∧ some k_ ≠ (u239002 : Value).ownBlock ∧ some k_ ≠ (u261002 : Value).ownBlock ∧ some k_ ≠ (u268002 : Value).ownBlock) u232002 x232002_5) ∧ Aside0 (Kd.R (Kd.int .i64) 3 w' w.heap.size (fun k_ => some k_ ≠ (u231002 : Value).ownBlock ∧ some k_ ≠ (u232002 : Value).ownBlock ∧ some k_ ≠ (u261002 : Value).ownBlock ∧ some k_ ≠ (u268002 : Value).ownBlock) u239002 x239002_5) ∧ Aside0 (Kd.V (Kd.int .i64) 3 w' w.heap.size (fun k_ => some k_ ≠ (u231002 : Value).ownBlock ∧ some k_ ≠ (u232002 : Value).ownBlock ∧ some k_ ≠ (u239002 : Value).ownBlock ∧ some k_ ≠ (u261002 : Value).ownBlock ∧ some k_ ≠ (u268002 : Value).ownBlock ∧ k_ ≠ gb212 ∧ k_ ≠ gb213 ∧ k_ ≠ gb230 ∧ k_ ≠ gb231 ∧ k_ ≠ gb238 ∧ k_ ≠ gb245 ∧ k_ ≠ gb260 ∧ k_ ≠ gb267) u246002 x246002_5) ∧ Aside0 (Kd.R (Kd.int .i64) 3 w' w.heap.size (fun k_ => some k_ ≠ (u231002 : Value).ownBlock ∧ some k_ ≠ (u232002 : Value).ownBlock ∧ some k_ ≠ (u239002 : Value).ownBlock ∧ some k_ ≠ (u268002 : Value).ownBlock) u261002 x261002_5) ∧ Aside0 (Kd.R (Kd.int .i64) 3 w' w.heap.size (fun k_ => some k_ ≠ (u231002 : Value).ownBlock ∧ some k_ ≠ (u232002 : Value).ownBlock ∧ some k_ ≠ (u239002 : Value).ownBlock ∧ some k_ ≠ (u261002 : Value).ownBlock) u268002 x268002_5) ∧ Aside0 (w'.heap[gb212]? = some (.cells #[.int .i64 a0_0, .int .i64 a0_1, (.slice A0_2 l0_2.length c0_2)] 24 (0, 0))) ∧ Aside0 (w'.heap[gb213]? = some (.cells #[.int .i64 a1_0, .int .i64 a1_1, (.slice A1_2 l1_2.length c1_2)] 24 (0, 0))) ∧ Aside0 (w'.heap[gb230]? = some (.cells #[.int .i64 t220, .int .i64 t221, u231002] 24 (0, 0))) ∧ Aside0 (w'.heap[gb231]? = some (.cells #[.int .i64 t225, .int .i64 t226, u232002] 24 (0, 0))) ∧ Aside0 (w'.heap[gb238]? = some (.cells #[.int .i64 t232, .int .i64 t233, u239002] 24 (0, 0))) ∧ Aside0 (w'.heap[gb245]? = some (.cells #[.int .i64 t239, .int .i64 t240, u246002] 24 (0, 0))) ∧ Aside0 (w'.heap[gb260]? = some (.cells #[.int .i64 t254, .int .i64 t255, u261002] 24 (0, 0))) ∧ Aside0 (w'.heap[gb267]? = some (.cells #[.int .i64 t261, .int .i64 t262, u268002] 24 (0, 0))) ∧ Aside0 (Below w.heap.size w w'))
          case atStart => exact ⟨(0), (x231002_4), (x232002_4), (x239002_4), (x246002_4), (x261002_4), (x268002_4), (u231002), (u232002), (.slice Ao237 x239002_4.length co237), (u246002), (u261002), (u268002), (by first | rfl | (simp; done) | (simp [*]; done) | (congr 1; simp only [eq_iff_iff, iff_true, ByteArray.size_append] at *; unfold wrap64; omega) | (congr 2; simp only [eq_iff_iff, iff_true, ByteArray.size_append] at *; unfold wrap64; omega)), H', ⟨Nat.le_refl _⟩, ⟨by (with_reducible repeat (first | apply Kd.R_alloc | apply Kd.R_drewN | apply Kd.R_drew)); exact HO_231002.out⟩, ⟨by (with_reducible repeat (first | apply Kd.R_alloc | apply Kd.R_drewN | apply Kd.R_drew)); exact HO_232002.out⟩, ⟨by (with_reducible repeat (first | apply Kd.R_alloc | apply Kd.R_drewN | apply Kd.R_drew)); exact HO_239002.out⟩, ⟨by (with_reducible repeat (first | apply Kd.V_alloc | apply Kd.V_drewN | apply Kd.V_drew)); exact HO_246002.out⟩, ⟨by (with_reducible repeat (first | apply Kd.R_alloc | apply Kd.R_drewN | apply Kd.R_drew)); exact HO_261002.out⟩, ⟨by (with_reducible repeat (first | apply Kd.R_alloc | apply Kd.R_drewN | apply Kd.R_drew)); exact HO_268002.out⟩, ⟨by (with_reducible repeat (first | apply bN | apply bD | apply bA)); exact BK212.out⟩, ⟨by (with_reducible repeat (first | apply bN | apply bD | apply bA)); exact BK213.out⟩, ⟨by (with_reducible repeat (first | apply bN | apply bD | apply bA)); exact BK230.out⟩, ⟨by (with_reducible repeat (first | apply bN | apply bD | apply bA)); exact BK231.out⟩, ⟨by (with_reducible repeat (first | apply bN | apply bD | apply bA)); exact BK238.out⟩, ⟨by (with_reducible repeat (first | apply bN | apply bD | apply bA)); exact BK245.out⟩, ⟨by (with_reducible repeat (first | apply bN | apply bD | apply bA)); exact BK260.out⟩, ⟨by (with_reducible repeat (first | apply bN | apply bD | apply bA)); exact BK267.out⟩, ⟨by repeat (first | (with_reducible first | exact HB.out | apply below_alloc | apply pw_below_drewN | apply below_drew1 | refine below_set ?_ GE212.out | refine below_set ?_ GE213.out | refine below_set ?_ GE230.out | refine below_set ?_ GE231.out | refine below_set ?_ GE238.out | refine below_set ?_ GE245.out | refine below_set ?_ GE260.out | refine below_set ?_ GE267.out) | exact HB.out)⟩⟩
          case round =>
           clear H'
           try clear c1
           try clear c2
           try clear p2
           try clear q2
           try clear hx2
           try clear c3
           try clear c5
           try clear c6
           try clear p6
           try clear c7
           try clear c8
           try clear c9
           try clear c10
           try clear c11
           try clear c12
           try clear c13
           try clear c14
           try clear c15
           try clear c16
           try clear c17
           try clear c18
           try clear c19
           try clear c20
           try clear c21
           try clear p21
           try clear q21
           try clear hx21
           try clear hf21
           try clear c22
           try clear c23
           try clear c50
           try clear c51
           try clear c52
           try clear c54
           try clear c55
           try clear c59
           try clear c60
           try clear c61
           try clear c62
           try clear p64
           try clear c66
           try clear c71
           try clear c72
           try clear c73
           try clear c74
           try clear c75
           try clear c87
           try clear c88
           try clear c89
           try clear c90
           try clear c91
           try clear c92
           try clear c99
           try clear c100
           try clear c101
           try clear c102
           try clear c103
           try clear c104
           try clear c105
           try clear c108
           try clear c108b0
           try clear c108b1
           try clear c108b2
           try clear c110
           try clear c111
           try clear c111b0
           try clear c111b1
           try clear c111b2
           try clear c112
           try clear c113
           try clear c114
           try clear c115
           try clear c116
           try clear c117
           try clear c118
           try clear c120
           try clear c121
           try clear c122
           try clear c123
           try clear c124
           try clear c125
           try clear c129
           try clear c130
           try clear c130b0
           try clear c130b1
           try clear c132
           try clear c133
           try clear c134
           try clear c135
           try clear c136
           try clear c137
           try clear c138
           try clear c140
           try clear c141
           try clear c142
           try clear c143
           try clear c144
           try clear c145
           try clear c150
           try clear c151
           try clear c152
           try clear c153
           try clear c154
           try clear c156
           try clear c157
           try clear c158
           try clear c159
           try clear c162
           try clear c163
           try clear c164
           try clear c165
           try clear c166
           try clear c167
           try clear c168
           try clear c170
           try clear c171
           try clear c172
           try clear c173
           try clear c174
           try clear c175
           try clear c180
           try clear c181
           try clear c182
           try clear c183
           try clear c184
           try clear c185
           try clear c186
           try clear c188
           try clear c189
           try clear c190
           try clear c191
           try clear c192
           try clear c193
           try clear c198
           try clear c199
           try clear c200
           try clear c201
           try clear c202
           try clear c203
           try clear c204
           try clear c206
           try clear c207
           try clear c208
           try clear c209
           try clear c210
           try clear c211
           try clear c214
           try clear c215
           try clear c215b0
           try clear c216
           try clear c216b0
           try clear p217
           try clear q217
           try clear hx217
           try clear hf217
           try clear c218
           try clear c219
           try clear c220
           try clear c221
           try clear c222
           try clear c223
           try clear c224
           try clear c229
           try clear c230
           try clear c231
           try clear c232
           try clear c233
           try clear c234
           try clear c235
           try clear hcz106_0
           try clear hcz106_1
           try clear hcz106_2
           try clear hcz119_0
           try clear hcz119_1
           try clear hcz119_2
           try clear hcz126_0
           try clear hcz126_1
           try clear hcz126_2
           try clear hcz139_0
           try clear hcz139_1
           try clear hcz139_2
           try clear hcz146_0
           try clear hcz146_1
           try clear hcz146_2
           try clear hcz155_0
           try clear hcz155_1
           try clear hcz155_2
           try clear hcz160_0
           try clear hcz160_1
           try clear hcz160_2
           try clear hcz169_0
           try clear hcz169_1
           try clear hcz169_2
           try clear hcz176_0
           try clear hcz176_1
           try clear hcz176_2
           try clear hcz187_0
           try clear hcz187_1
           try clear hcz187_2
           try clear hcz194_0
           try clear hcz194_1
           try clear hcz194_2
           try clear hcz205_0
           try clear hcz205_1
           try clear hcz205_2
           try clear hcz212_0
           try clear hcz212_1
           try clear hcz212_2
           try clear hcz225_0
           try clear hcz225_1
           try clear hcz225_2
           try clear hcz236_0
           try clear hcz236_1
           try clear hcz236_2
           try clear hcz53_0
           try clear hcz53_1
           try clear hcz53_2
           try clear hcz56_0
           try clear hcz56_1
           try clear hcz56_2
           try clear hcz63_0
           try clear hcz63_1
           try clear hcz63_2
           try clear hcz67_0
           try clear hcz67_1
           try clear hcz67_2
           try clear hcz68_0
           try clear hcz68_1
           try clear hcz68_2
           try clear hcz76_0
           try clear hcz76_1
           try clear hcz76_2
           try clear hcz78_0
           try clear hcz78_1
           try clear hcz78_2
           try clear hcz79_0
           try clear hcz79_1
           try clear hcz79_2
           try clear hcz81_0
           try clear hcz81_1
           try clear hcz81_2
           try clear hcz82_0
           try clear hcz82_1
           try clear hcz82_2
           try clear hcz84_0
           try clear hcz84_1
           try clear hcz84_2
           try clear hcz93_0
           try clear hcz93_1
           try clear hcz93_2
           try clear hcz95_0
           try clear hcz95_1
           try clear hcz95_2
           try clear hfz106_0
           try clear hfz106_1
           try clear hfz106_2
           try clear hfz119_0
           try clear hfz119_1
           try clear hfz119_2
           try clear hfz126_0
           try clear hfz126_1
           try clear hfz126_2
           try clear hfz139_0
           try clear hfz139_1
           try clear hfz139_2
           try clear hfz146_0
           try clear hfz146_1
           try clear hfz146_2
           try clear hfz155_0
           try clear hfz155_1
           try clear hfz155_2
           try clear hfz160_0
           try clear hfz160_1
           try clear hfz160_2
           try clear hfz169_0
           try clear hfz169_1
           try clear hfz169_2
           try clear hfz176_0
           try clear hfz176_1
           try clear hfz176_2
           try clear hfz187_0
           try clear hfz187_1
           try clear hfz187_2
           try clear hfz194_0
           try clear hfz194_1
           try clear hfz194_2
           try clear hfz205_0
           try clear hfz205_1
           try clear hfz205_2
           try clear hfz212_0
           try clear hfz212_1
           try clear hfz212_2
           try clear hfz225_0
           try clear hfz225_1
           try clear hfz225_2
           try clear hfz236_0
           try clear hfz236_1
           try clear hfz236_2
           try clear hfz53_0
           try clear hfz53_1
           try clear hfz53_2
           try clear hfz56_0
           try clear hfz56_1
           try clear hfz56_2
           try clear hfz63_0
           try clear hfz63_1
           try clear hfz63_2
           try clear hfz67_0
           try clear hfz67_1
           try clear hfz67_2
           try clear hfz68_0
           try clear hfz68_1
           try clear hfz68_2
           try clear hfz76_0
           try clear hfz76_1
           try clear hfz76_2
           try clear hfz78_0
           try clear hfz78_1
           try clear hfz78_2
           try clear hfz79_0
           try clear hfz79_1
           try clear hfz79_2
           try clear hfz81_0
           try clear hfz81_1
           try clear hfz81_2
           try clear hfz82_0
           try clear hfz82_1
           try clear hfz82_2
           try clear hfz84_0
           try clear hfz84_1
           try clear hfz84_2
           try clear hfz93_0
           try clear hfz93_1
           try clear hfz93_2
           try clear hfz95_0
           try clear hfz95_1
           try clear hfz95_2
           try clear hx217_0
           try clear p2
           try clear p217
           try clear p6
           try clear p64
           try clear q217
           obtain ⟨x26_5, x231002_5, x232002_5, x239002_5, x246002_5, x261002_5, x268002_5, u231002, u232002, u239002, u246002, u261002, u268002, rfl, HA, HK5, HO_231002, HO_232002, HO_239002, HO_246002, HO_261002, HO_268002, BK212, BK213, BK230, BK231, BK238, BK245, BK260, BK267, HB⟩ := hrel
           cases gk with
           | zero => exact absurd HA.out (by simp [meterlaw18_SpreadTells.l2])
           | succ k5 =>
            have H := HA.out
            clear HA
            simp only [meterlaw18_SpreadTells.l2] at H
            by_cases c238 : x26_5 < (x261002_5.length : Int)
            · rw [if_pos c238] at H
              have c238b0 : decide (x26_5 < (x261002_5.length : Int)) = true := decide_eq_true c238
              clear c238
              by_cases c239 : 0 ≤ x26_5
              · rw [if_pos c239] at H
                have c239b0 : decide (0 ≤ x26_5) = true := decide_eq_true c239
                clear c239
                obtain ⟨y272, hy272⟩ : ∃ y_ : List Int, y_ = (x261002_5.set (x26_5 : Int).toNat 99) := ⟨_, rfl⟩
                replace H : (meterlaw18_SpreadTells.l2 k5 (wrap64 (x26_5 + 1)) a0_0 a0_1 l0_2 a1_0 a1_1 l1_2 t220 t221 x231002_5 t225 t226 x232002_5 t254 t255 y272) = some r := by first | (rw [hy272]; with_reducible exact H) | (have H2_ := (Option.bind_some _ _).symm.trans H; rw [hy272]; with_reducible exact H2_) | (have H2_ := (Option.bind_some _ _).symm.trans H; with_reducible exact H2_) | with_reducible exact H | (rw [hy272]; exact H) | exact H
                have Ny272 := qM hy272
                clear hy272
                have H' := qM H
                clear H
                have hnb241 := NB260_212.out
                have hnc241 := NB212_260.out
                have hnb242 := NB260_213.out
                have hnc242 := NB213_260.out
                have hnb243 := NB260_230.out
                have hnc243 := NB230_260.out
                have hnb244 := NB260_231.out
                have hnc244 := NB231_260.out
                have hnb245 := NB260_238.out
                have hnc245 := NB238_260.out
                have hnb246 := NB260_245.out
                have hnc246 := NB245_260.out
                have hnb247 := NB260_267.out
                have hnc247 := NB267_260.out
                have hcz248_0 : wr.cell? ⟨gb260, 0, none⟩ = some (.int .i64 t254) := (blk_cell BK260.out 0).trans rfl
                have hcz248_1 : wr.cell? ⟨gb260, 1, none⟩ = some (.int .i64 t255) := (blk_cell BK260.out 1).trans rfl
                have hcz248_2 : wr.cell? ⟨gb260, 2, none⟩ = some (u261002) := (blk_cell BK260.out 2).trans rfl
                have hfz248_0 := blk_frozen BK260.out 0
                have hfz248_1 := blk_frozen BK260.out 1
                have hfz248_2 := blk_frozen BK260.out 2
                obtain ⟨Ao249, co249, eo249⟩ := Kd.R_slice HO_261002.out
                subst eo249
                have p240 : 0 ≤ (x26_5 : Int) := of_decide_eq_true (by first | (with_reducible assumption) | assumption)
                have q240 : (x26_5 : Int) < ((x261002_5.length : Int) : Int) := of_decide_eq_true (by first | (with_reducible assumption) | assumption)
                obtain ⟨go240, co240, eo240, gb240, gl240, cl240, HG240⟩ := Kd.R_form HO_261002.out (by omega)
                (first | cases eo240 | (injection eo240 with ea_ en_ ec_; (first | subst ea_ | (injection ea_ with ea_; subst ea_)); subst ec_; clear en_))
                have GB240 := qM gb240
                have GG240 := qM HG240
                clear gb240 gl240 HG240
                obtain ⟨hx240_0, hf240_0⟩ := Kd.R_celln 0 HO_261002.out (x26_5 : Int) p240 q240
                replace p240 := eq_true p240
                replace q240 := eq_true q240
                have HP250 := Kd.R_putg HO_261002.out (x26_5 : Int) 99
                go_wp2_with (first | ((with_reducible refine gate_store (t := 3) (p := 158) rfl ?_); refine store_event (t := 3) (p := 158) (v := ?vo_w251) (w1 := (wr.setCell ⟨go240, (x26_5 : Int).toNat, none⟩ (.int .i64 99))) ?hg ?ho ?hn ?hr ?_; (case ho => rfl); (case hg => rfl); (case hn => rfl); (case hr => first | (go_simp; done) | (go_simp; rfl)); intro w251 hw; have hg : wr.grownBy w251 (some go240) := (by rw [hw]; exact HP250.2); have hp_ : Kd.R (Kd.int .i64) 3 w251 w.heap.size (fun k_ => some k_ ≠ (u231002 : Value).ownBlock ∧ some k_ ≠ (u232002 : Value).ownBlock ∧ some k_ ≠ (u239002 : Value).ownBlock ∧ some k_ ≠ (u268002 : Value).ownBlock) (.slice (some ⟨go240, 0, none⟩) x261002_5.length co249) y272 := (by rw [hw, Ny272.out]; exact HP250.1); clear HP250; have n0_ := qM (Kd.R_after (v := (.slice (some ⟨go240, 0, none⟩) x261002_5.length co249)) (v1 := (.slice (some ⟨go240, 0, none⟩) x261002_5.length co249)) (ok := (fun k_ => some k_ ≠ (u232002 : Value).ownBlock ∧ some k_ ≠ (u239002 : Value).ownBlock ∧ some k_ ≠ (u268002 : Value).ownBlock)) (by (with_reducible repeat (first | apply Kd.R_alloc | apply Kd.R_drewN | apply Kd.R_drew)); exact Kd.R_mono HO_231002.out (fun _ hk => ⟨⟨hk.1, ⟨hk.2.1, hk.2.2.2⟩⟩, hk.2.2.1⟩)) hg (.inl rfl)); have n1_ := qM (Kd.R_after (v := (.slice (some ⟨go240, 0, none⟩) x261002_5.length co249)) (v1 := (.slice (some ⟨go240, 0, none⟩) x261002_5.length co249)) (ok := (fun k_ => some k_ ≠ (u231002 : Value).ownBlock ∧ some k_ ≠ (u239002 : Value).ownBlock ∧ some k_ ≠ (u268002 : Value).ownBlock)) (by (with_reducible repeat (first | apply Kd.R_alloc | apply Kd.R_drewN | apply Kd.R_drew)); exact Kd.R_mono HO_232002.out (fun _ hk => ⟨⟨hk.1, ⟨hk.2.1, hk.2.2.2⟩⟩, hk.2.2.1⟩)) hg (.inl rfl)); have n2_ := qM (Kd.R_after (v := (.slice (some ⟨go240, 0, none⟩) x261002_5.length co249)) (v1 := (.slice (some ⟨go240, 0, none⟩) x261002_5.length co249)) (ok := (fun k_ => some k_ ≠ (u231002 : Value).ownBlock ∧ some k_ ≠ (u232002 : Value).ownBlock ∧ some k_ ≠ (u268002 : Value).ownBlock)) (by (with_reducible repeat (first | apply Kd.R_alloc | apply Kd.R_drewN | apply Kd.R_drew)); exact Kd.R_mono HO_239002.out (fun _ hk => ⟨⟨hk.1, ⟨hk.2.1, hk.2.2.2⟩⟩, hk.2.2.1⟩)) hg (.inl rfl)); have n3_ := qM (Kd.V_afterv (v := (.slice (some ⟨go240, 0, none⟩) x261002_5.length co249)) (v1 := (.slice (some ⟨go240, 0, none⟩) x261002_5.length co249)) (ok := (fun k_ => some k_ ≠ (u231002 : Value).ownBlock ∧ some k_ ≠ (u232002 : Value).ownBlock ∧ some k_ ≠ (u239002 : Value).ownBlock ∧ some k_ ≠ (u268002 : Value).ownBlock ∧ k_ ≠ gb212 ∧ k_ ≠ gb213 ∧ k_ ≠ gb230 ∧ k_ ≠ gb231 ∧ k_ ≠ gb238 ∧ k_ ≠ gb245 ∧ k_ ≠ gb260 ∧ k_ ≠ gb267)) (by (with_reducible repeat (first | apply Kd.V_alloc | apply Kd.V_drewN | apply Kd.V_drew)); exact Kd.V_mono HO_246002.out (fun _ hk => ⟨⟨hk.1, ⟨hk.2.1, ⟨hk.2.2.1, ⟨hk.2.2.2.2.1, ⟨hk.2.2.2.2.2.1, ⟨hk.2.2.2.2.2.2.1, ⟨hk.2.2.2.2.2.2.2.1, ⟨hk.2.2.2.2.2.2.2.2.1, ⟨hk.2.2.2.2.2.2.2.2.2.1, ⟨hk.2.2.2.2.2.2.2.2.2.2.1, ⟨hk.2.2.2.2.2.2.2.2.2.2.2.1, hk.2.2.2.2.2.2.2.2.2.2.2.2⟩⟩⟩⟩⟩⟩⟩⟩⟩⟩⟩, hk.2.2.2.1⟩)) hg (.inl rfl)); have n4_ := qM (hp_); have n5_ := qM (Kd.R_after (v := (.slice (some ⟨go240, 0, none⟩) x261002_5.length co249)) (v1 := (.slice (some ⟨go240, 0, none⟩) x261002_5.length co249)) (ok := (fun k_ => some k_ ≠ (u231002 : Value).ownBlock ∧ some k_ ≠ (u232002 : Value).ownBlock ∧ some k_ ≠ (u239002 : Value).ownBlock)) (by (with_reducible repeat (first | apply Kd.R_alloc | apply Kd.R_drewN | apply Kd.R_drew)); exact Kd.R_mono HO_268002.out (fun _ hk => ⟨⟨hk.1, ⟨hk.2.1, hk.2.2.1⟩⟩, hk.2.2.2⟩)) hg (.inl rfl)); have n6_ := qM (blk_grown (g := gb212) (o := .cells #[.int .i64 a0_0, .int .i64 a0_1, .slice A0_2 l0_2.length c0_2] 24 (0, 0)) (by (with_reducible repeat (first | apply bN | apply bD | apply bA)); exact BK212.out) hg (Kd.R_ne HO_261002.out BK212.out (by decide))); have n7_ := qM (blk_grown (g := gb213) (o := .cells #[.int .i64 a1_0, .int .i64 a1_1, .slice A1_2 l1_2.length c1_2] 24 (0, 0)) (by (with_reducible repeat (first | apply bN | apply bD | apply bA)); exact BK213.out) hg (Kd.R_ne HO_261002.out BK213.out (by decide))); have n8_ := qM (blk_grown (g := gb230) (o := .cells #[.int .i64 t220, .int .i64 t221, u231002] 24 (0, 0)) (by (with_reducible repeat (first | apply bN | apply bD | apply bA)); exact BK230.out) hg (Kd.R_ne HO_261002.out BK230.out (by decide))); have n9_ := qM (blk_grown (g := gb231) (o := .cells #[.int .i64 t225, .int .i64 t226, u232002] 24 (0, 0)) (by (with_reducible repeat (first | apply bN | apply bD | apply bA)); exact BK231.out) hg (Kd.R_ne HO_261002.out BK231.out (by decide))); have n10_ := qM (blk_grown (g := gb238) (o := .cells #[.int .i64 t232, .int .i64 t233, u239002] 24 (0, 0)) (by (with_reducible repeat (first | apply bN | apply bD | apply bA)); exact BK238.out) hg (Kd.R_ne HO_261002.out BK238.out (by decide))); have n11_ := qM (blk_grown (g := gb245) (o := .cells #[.int .i64 t239, .int .i64 t240, u246002] 24 (0, 0)) (by (with_reducible repeat (first | apply bN | apply bD | apply bA)); exact BK245.out) hg (Kd.R_ne HO_261002.out BK245.out (by decide))); have n12_ := qM (blk_grown (g := gb260) (o := .cells #[.int .i64 t254, .int .i64 t255, .slice (some ⟨go240, 0, none⟩) x261002_5.length co249] 24 (0, 0)) (by (with_reducible repeat (first | apply bN | apply bD | apply bA)); exact BK260.out) hg (Kd.R_ne HO_261002.out BK260.out (by decide))); have n13_ := qM (blk_grown (g := gb267) (o := .cells #[.int .i64 t261, .int .i64 t262, u268002] 24 (0, 0)) (by (with_reducible repeat (first | apply bN | apply bD | apply bA)); exact BK267.out) hg (Kd.R_ne HO_261002.out BK267.out (by decide))); have n14_ := qM ((by rw [hw]; exact below_set (HB.out) GB240.out : Below w.heap.size w w251)); clear HO_231002; clear HO_232002; clear HO_239002; clear HO_246002; clear HO_261002; clear HO_268002; clear BK212; clear BK213; clear BK230; clear BK231; clear BK238; clear BK245; clear BK260; clear BK267; clear HB; have HO_231002 := n0_; have HO_232002 := n1_; have HO_239002 := n2_; have HO_246002 := n3_; have HO_261002 := n4_; have HO_268002 := n5_; have BK212 := n6_; have BK213 := n7_; have BK230 := n8_; have BK231 := n9_; have BK238 := n10_; have BK245 := n11_; have BK260 := n12_; have BK267 := n13_; have HB := n14_; clear n0_ n1_ n2_ n3_ n4_ n5_ n6_ n7_ n8_ n9_ n10_ n11_ n12_ n13_ n14_; clear hg hw hp_))
                go_roundg k5
                case measure => have := HJ6.out; have := HK2.out; have := HJ34.out; have := HK4.out; have := HK5.out; omega
                case rel => exact ⟨(wrap64 (x26_5 + 1)), (x231002_5), (x232002_5), (x239002_5), (x246002_5), (y272), (x268002_5), (u231002), (u232002), (u239002), (u246002), (.slice (some ⟨go240, 0, none⟩) x261002_5.length co249), (u268002), (by first | rfl | (simp; done) | (simp [*]; done) | (congr 1; simp only [eq_iff_iff, iff_true, ByteArray.size_append] at *; unfold wrap64; omega) | (congr 2; simp only [eq_iff_iff, iff_true, ByteArray.size_append] at *; unfold wrap64; omega)), H', ⟨by have := HJ6.out; have := HK2.out; have := HJ34.out; have := HK4.out; have := HK5.out; omega⟩, ⟨by (with_reducible repeat (first | apply Kd.R_alloc | apply Kd.R_drewN | apply Kd.R_drew)); exact Kd.R_mono HO_231002.out (fun _ hk => ⟨hk.1.1, ⟨hk.1.2.1, ⟨hk.2, hk.1.2.2⟩⟩⟩)⟩, ⟨by (with_reducible repeat (first | apply Kd.R_alloc | apply Kd.R_drewN | apply Kd.R_drew)); exact Kd.R_mono HO_232002.out (fun _ hk => ⟨hk.1.1, ⟨hk.1.2.1, ⟨hk.2, hk.1.2.2⟩⟩⟩)⟩, ⟨by (with_reducible repeat (first | apply Kd.R_alloc | apply Kd.R_drewN | apply Kd.R_drew)); exact Kd.R_mono HO_239002.out (fun _ hk => ⟨hk.1.1, ⟨hk.1.2.1, ⟨hk.2, hk.1.2.2⟩⟩⟩)⟩, ⟨by (with_reducible repeat (first | apply Kd.V_alloc | apply Kd.V_drewN | apply Kd.V_drew)); exact Kd.V_mono HO_246002.out (fun _ hk => ⟨hk.1.1, ⟨hk.1.2.1, ⟨hk.1.2.2.1, ⟨hk.2, ⟨hk.1.2.2.2.1, ⟨hk.1.2.2.2.2.1, ⟨hk.1.2.2.2.2.2.1, ⟨hk.1.2.2.2.2.2.2.1, ⟨hk.1.2.2.2.2.2.2.2.1, ⟨hk.1.2.2.2.2.2.2.2.2.1, ⟨hk.1.2.2.2.2.2.2.2.2.2.1, ⟨hk.1.2.2.2.2.2.2.2.2.2.2.1, hk.1.2.2.2.2.2.2.2.2.2.2.2⟩⟩⟩⟩⟩⟩⟩⟩⟩⟩⟩⟩)⟩, ⟨by (with_reducible repeat (first | apply Kd.R_alloc | apply Kd.R_drewN | apply Kd.R_drew)); exact HO_261002.out⟩, ⟨by (with_reducible repeat (first | apply Kd.R_alloc | apply Kd.R_drewN | apply Kd.R_drew)); exact Kd.R_mono HO_268002.out (fun _ hk => ⟨hk.1.1, ⟨hk.1.2.1, ⟨hk.1.2.2, hk.2⟩⟩⟩)⟩, ⟨by (with_reducible repeat (first | apply bN | apply bD | apply bA)); exact BK212.out⟩, ⟨by (with_reducible repeat (first | apply bN | apply bD | apply bA)); exact BK213.out⟩, ⟨by (with_reducible repeat (first | apply bN | apply bD | apply bA)); exact BK230.out⟩, ⟨by (with_reducible repeat (first | apply bN | apply bD | apply bA)); exact BK231.out⟩, ⟨by (with_reducible repeat (first | apply bN | apply bD | apply bA)); exact BK238.out⟩, ⟨by (with_reducible repeat (first | apply bN | apply bD | apply bA)); exact BK245.out⟩, ⟨by (with_reducible repeat (first | apply bN | apply bD | apply bA)); exact BK260.out⟩, ⟨by (with_reducible repeat (first | apply bN | apply bD | apply bA)); exact BK267.out⟩, ⟨by repeat (first | (with_reducible first | exact HB.out | apply below_alloc | apply pw_below_drewN | apply below_drew1 | refine below_set ?_ GE212.out | refine below_set ?_ GE213.out | refine below_set ?_ GE230.out | refine below_set ?_ GE231.out | refine below_set ?_ GE238.out | refine below_set ?_ GE245.out | refine below_set ?_ GE260.out | refine below_set ?_ GE267.out) | exact HB.out)⟩⟩
              rw [if_neg c239] at H
              exact absurd H (by simp)
            rw [if_neg c238] at H
            have c238b0 : decide (x26_5 < (x261002_5.length : Int)) = false := decide_eq_false c238
            clear c238
            replace H := Option.bind_eq_some_iff.mp H
            obtain ⟨t273, A2520, H⟩ := H
            replace H : (if t273 = true then ((meterref17_Same.f k5 t225 t226 x232002_5 a1_0 a1_1 l1_2).bind fun t274 => (some t274)) else (some false)) = some r := H
            have A252 := qM A2520
            clear A2520
            by_cases c253 : t273 = true
            · subst c253
              have H1 : ((meterref17_Same.f k5 t225 t226 x232002_5 a1_0 a1_1 l1_2).bind fun t274 => (some t274)) = some r := by rw [if_pos rfl] at H; exact H
              clear H
              have H := H1
              clear H1
              replace H := Option.bind_eq_some_iff.mp H
              obtain ⟨t274, A2540, H⟩ := H
              replace H : (some t274) = some r := H
              have A254 := qM A2540
              clear A2540
              obtain rfl := Option.some.inj H
              have hnb255 := NB260_212.out
              have hnc255 := NB212_260.out
              have hnb256 := NB260_213.out
              have hnc256 := NB213_260.out
              have hnb257 := NB260_230.out
              have hnc257 := NB230_260.out
              have hnb258 := NB260_231.out
              have hnc258 := NB231_260.out
              have hnb259 := NB260_238.out
              have hnc259 := NB238_260.out
              have hnb260 := NB260_245.out
              have hnc260 := NB245_260.out
              have hnb261 := NB260_267.out
              have hnc261 := NB267_260.out
              have hcz262_0 : wr.cell? ⟨gb260, 0, none⟩ = some (.int .i64 t254) := (blk_cell BK260.out 0).trans rfl
              have hcz262_1 : wr.cell? ⟨gb260, 1, none⟩ = some (.int .i64 t255) := (blk_cell BK260.out 1).trans rfl
              have hcz262_2 : wr.cell? ⟨gb260, 2, none⟩ = some (u261002) := (blk_cell BK260.out 2).trans rfl
              have hfz262_0 := blk_frozen BK260.out 0
              have hfz262_1 := blk_frozen BK260.out 1
              have hfz262_2 := blk_frozen BK260.out 2
              obtain ⟨Ao263, co263, eo263⟩ := Kd.R_slice HO_261002.out
              subst eo263
              have hnb264 := NB230_212.out
              have hnc264 := NB212_230.out
              have hnb265 := NB230_213.out
              have hnc265 := NB213_230.out
              have hnb266 := NB230_231.out
              have hnc266 := NB231_230.out
              have hnb267 := NB230_238.out
              have hnc267 := NB238_230.out
              have hnb268 := NB230_245.out
              have hnc268 := NB245_230.out
              have hnb269 := NB230_267.out
              have hnc269 := NB267_230.out
              have hcz270_0 : wr.cell? ⟨gb230, 0, none⟩ = some (.int .i64 t220) := (blk_cell BK230.out 0).trans rfl
              have hcz270_1 : wr.cell? ⟨gb230, 1, none⟩ = some (.int .i64 t221) := (blk_cell BK230.out 1).trans rfl
              have hcz270_2 : wr.cell? ⟨gb230, 2, none⟩ = some (u231002) := (blk_cell BK230.out 2).trans rfl
              have hfz270_0 := blk_frozen BK230.out 0
              have hfz270_1 := blk_frozen BK230.out 1
              have hfz270_2 := blk_frozen BK230.out 2
              have hnb271 := NB212_213.out
              have hnc271 := NB213_212.out
              have hnb272 := NB212_231.out
              have hnc272 := NB231_212.out
              have hnb273 := NB212_238.out
              have hnc273 := NB238_212.out
              have hnb274 := NB212_245.out
              have hnc274 := NB245_212.out
              have hnb275 := NB212_267.out
              have hnc275 := NB267_212.out
              have hcz276_0 : wr.cell? ⟨gb212, 0, none⟩ = some (.int .i64 a0_0) := (blk_cell BK212.out 0).trans rfl
              have hcz276_1 : wr.cell? ⟨gb212, 1, none⟩ = some (.int .i64 a0_1) := (blk_cell BK212.out 1).trans rfl
              have hcz276_2 : wr.cell? ⟨gb212, 2, none⟩ = some (.slice A0_2 l0_2.length c0_2) := (blk_cell BK212.out 2).trans rfl
              have hfz276_0 := blk_frozen BK212.out 0
              have hfz276_1 := blk_frozen BK212.out 1
              have hfz276_2 := blk_frozen BK212.out 2
              obtain ⟨Ao277, co277, eo277⟩ := Kd.R_slice HO_231002.out
              subst eo277
              go_wp2_with (first | ((with_reducible refine gate_callee (f := 17) rfl ?_); refine goesL_ (some 161) rfl rfl Try.func17 (by kernel_rfl) rfl #[.agg #[.int .i64 t220, .int .i64 t221, .slice Ao277 x231002_5.length co277], .agg #[.int .i64 a0_0, .int .i64 a0_1, .slice A0_2 l0_2.length c0_2]] rfl (by (try simp only [List.map_toArray, List.map_cons, List.map_nil]); first | done | rfl | (simp only [List.length_drop, List.length_take]; rfl)) ?_; (with_reducible refine (meterref17_Same.calls k5 t220 t221 _ _ x231002_5 a0_0 a0_1 _ _ l0_2 true _ ?side1 ?side2 ?side3 ?side4 A252.out).mono ?_); (case side1 => repeat (first | exact (Kd.R_reads' HO_231002.out).2.2 | (with_reducible refine Kd.C_alloc ?_ _) | (with_reducible refine Kd.C_drewN ?_ _) | (with_reducible refine Kd.C_drew ?_))); (case side2 => exact (Kd.R_reads' HO_231002.out).2.1); (case side3 => repeat (first | exact (Kd.C_below HR0_2.out HB.out) | (with_reducible refine Kd.C_alloc ?_ _) | (with_reducible refine Kd.C_drewN ?_ _) | (with_reducible refine Kd.C_drew ?_))); (case side4 => exact HC0_2.out); rintro e w278 ⟨rfl, hb⟩; refine ⟨_, rfl, ?_⟩; have n0_ := qM (Kd.R_below (by (with_reducible repeat (first | apply Kd.R_alloc | apply Kd.R_drewN | apply Kd.R_drew)); exact HO_231002.out) hb); have n1_ := qM (Kd.R_below (by (with_reducible repeat (first | apply Kd.R_alloc | apply Kd.R_drewN | apply Kd.R_drew)); exact HO_232002.out) hb); have n2_ := qM (Kd.R_below (by (with_reducible repeat (first | apply Kd.R_alloc | apply Kd.R_drewN | apply Kd.R_drew)); exact HO_239002.out) hb); have n3_ := qM (Kd.V_below (by (with_reducible repeat (first | apply Kd.V_alloc | apply Kd.V_drewN | apply Kd.V_drew)); exact HO_246002.out) hb); have n4_ := qM (Kd.R_below (by (with_reducible repeat (first | apply Kd.R_alloc | apply Kd.R_drewN | apply Kd.R_drew)); exact HO_261002.out) hb); have n5_ := qM (Kd.R_below (by (with_reducible repeat (first | apply Kd.R_alloc | apply Kd.R_drewN | apply Kd.R_drew)); exact HO_268002.out) hb); have n6_ := qM (blk_below (g := gb212) (o := .cells #[.int .i64 a0_0, .int .i64 a0_1, .slice A0_2 l0_2.length c0_2] 24 (0, 0)) (by (with_reducible repeat (first | apply bN | apply bD | apply bA)); exact BK212.out) hb); have n7_ := qM (blk_below (g := gb213) (o := .cells #[.int .i64 a1_0, .int .i64 a1_1, .slice A1_2 l1_2.length c1_2] 24 (0, 0)) (by (with_reducible repeat (first | apply bN | apply bD | apply bA)); exact BK213.out) hb); have n8_ := qM (blk_below (g := gb230) (o := .cells #[.int .i64 t220, .int .i64 t221, .slice Ao277 x231002_5.length co277] 24 (0, 0)) (by (with_reducible repeat (first | apply bN | apply bD | apply bA)); exact BK230.out) hb); have n9_ := qM (blk_below (g := gb231) (o := .cells #[.int .i64 t225, .int .i64 t226, u232002] 24 (0, 0)) (by (with_reducible repeat (first | apply bN | apply bD | apply bA)); exact BK231.out) hb); have n10_ := qM (blk_below (g := gb238) (o := .cells #[.int .i64 t232, .int .i64 t233, u239002] 24 (0, 0)) (by (with_reducible repeat (first | apply bN | apply bD | apply bA)); exact BK238.out) hb); have n11_ := qM (blk_below (g := gb245) (o := .cells #[.int .i64 t239, .int .i64 t240, u246002] 24 (0, 0)) (by (with_reducible repeat (first | apply bN | apply bD | apply bA)); exact BK245.out) hb); have n12_ := qM (blk_below (g := gb260) (o := .cells #[.int .i64 t254, .int .i64 t255, .slice Ao263 x261002_5.length co263] 24 (0, 0)) (by (with_reducible repeat (first | apply bN | apply bD | apply bA)); exact BK260.out) hb); have n13_ := qM (blk_below (g := gb267) (o := .cells #[.int .i64 t261, .int .i64 t262, u268002] 24 (0, 0)) (by (with_reducible repeat (first | apply bN | apply bD | apply bA)); exact BK267.out) hb); have n14_ := qM (below_step (by repeat (first | (with_reducible first | exact HB.out | apply below_alloc | apply pw_below_drewN | apply below_drew1 | refine below_set ?_ GE212.out | refine below_set ?_ GE213.out | refine below_set ?_ GE230.out | refine below_set ?_ GE231.out | refine below_set ?_ GE238.out | refine below_set ?_ GE245.out | refine below_set ?_ GE260.out | refine below_set ?_ GE267.out) | exact HB.out)) hb); clear HO_231002; clear HO_232002; clear HO_239002; clear HO_246002; clear HO_261002; clear HO_268002; clear BK212; clear BK213; clear BK230; clear BK231; clear BK238; clear BK245; clear BK260; clear BK267; clear HB; have HO_231002 := n0_; have HO_232002 := n1_; have HO_239002 := n2_; have HO_246002 := n3_; have HO_261002 := n4_; have HO_268002 := n5_; have BK212 := n6_; have BK213 := n7_; have BK230 := n8_; have BK231 := n9_; have BK238 := n10_; have BK245 := n11_; have BK260 := n12_; have BK267 := n13_; have HB := n14_; clear n0_ n1_ n2_ n3_ n4_ n5_ n6_ n7_ n8_ n9_ n10_ n11_ n12_ n13_ n14_; (try clear hb); (try clear hb2); (try clear hk); (try clear hi); have hnb279 := NB231_213.out; have hnc279 := NB213_231.out; have hnb280 := NB231_238.out; have hnc280 := NB238_231.out; have hnb281 := NB231_245.out; have hnc281 := NB245_231.out; have hnb282 := NB231_267.out; have hnc282 := NB267_231.out; have hcz283_0 : w278.cell? ⟨gb231, 0, none⟩ = some (.int .i64 t225) := (blk_cell BK231.out 0).trans rfl; have hcz283_1 : w278.cell? ⟨gb231, 1, none⟩ = some (.int .i64 t226) := (blk_cell BK231.out 1).trans rfl; have hcz283_2 : w278.cell? ⟨gb231, 2, none⟩ = some (u232002) := (blk_cell BK231.out 2).trans rfl; have hfz283_0 := blk_frozen BK231.out 0; have hfz283_1 := blk_frozen BK231.out 1; have hfz283_2 := blk_frozen BK231.out 2; have hnb284 := NB213_238.out; have hnc284 := NB238_213.out; have hnb285 := NB213_245.out; have hnc285 := NB245_213.out; have hnb286 := NB213_267.out; have hnc286 := NB267_213.out; have hcz287_0 : w278.cell? ⟨gb213, 0, none⟩ = some (.int .i64 a1_0) := (blk_cell BK213.out 0).trans rfl; have hcz287_1 : w278.cell? ⟨gb213, 1, none⟩ = some (.int .i64 a1_1) := (blk_cell BK213.out 1).trans rfl; have hcz287_2 : w278.cell? ⟨gb213, 2, none⟩ = some (.slice A1_2 l1_2.length c1_2) := (blk_cell BK213.out 2).trans rfl; have hfz287_0 := blk_frozen BK213.out 0; have hfz287_1 := blk_frozen BK213.out 1; have hfz287_2 := blk_frozen BK213.out 2; obtain ⟨Ao288, co288, eo288⟩ := Kd.R_slice HO_232002.out; subst eo288) | (go_at_call 17; (with_reducible refine (meterref17_Same.calls k5 t225 t226 _ _ x232002_5 a1_0 a1_1 _ _ l1_2 t274 _ ?side1 ?side2 ?side3 ?side4 A254.out).mono ?_); (case side1 => repeat (first | exact (Kd.R_reads' HO_232002.out).2.2 | (with_reducible refine Kd.C_alloc ?_ _) | (with_reducible refine Kd.C_drewN ?_ _) | (with_reducible refine Kd.C_drew ?_))); (case side2 => exact (Kd.R_reads' HO_232002.out).2.1); (case side3 => repeat (first | exact (Kd.C_below HR1_2.out HB.out) | (with_reducible refine Kd.C_alloc ?_ _) | (with_reducible refine Kd.C_drewN ?_ _) | (with_reducible refine Kd.C_drew ?_))); (case side4 => exact HC1_2.out); rintro e w289 ⟨rfl, hb⟩; have n0_ := qM (Kd.R_below (by (with_reducible repeat (first | apply Kd.R_alloc | apply Kd.R_drewN | apply Kd.R_drew)); exact HO_231002.out) hb); have n1_ := qM (Kd.R_below (by (with_reducible repeat (first | apply Kd.R_alloc | apply Kd.R_drewN | apply Kd.R_drew)); exact HO_232002.out) hb); have n2_ := qM (Kd.R_below (by (with_reducible repeat (first | apply Kd.R_alloc | apply Kd.R_drewN | apply Kd.R_drew)); exact HO_239002.out) hb); have n3_ := qM (Kd.V_below (by (with_reducible repeat (first | apply Kd.V_alloc | apply Kd.V_drewN | apply Kd.V_drew)); exact HO_246002.out) hb); have n4_ := qM (Kd.R_below (by (with_reducible repeat (first | apply Kd.R_alloc | apply Kd.R_drewN | apply Kd.R_drew)); exact HO_261002.out) hb); have n5_ := qM (Kd.R_below (by (with_reducible repeat (first | apply Kd.R_alloc | apply Kd.R_drewN | apply Kd.R_drew)); exact HO_268002.out) hb); have n6_ := qM (blk_below (g := gb212) (o := .cells #[.int .i64 a0_0, .int .i64 a0_1, .slice A0_2 l0_2.length c0_2] 24 (0, 0)) (by (with_reducible repeat (first | apply bN | apply bD | apply bA)); exact BK212.out) hb); have n7_ := qM (blk_below (g := gb213) (o := .cells #[.int .i64 a1_0, .int .i64 a1_1, .slice A1_2 l1_2.length c1_2] 24 (0, 0)) (by (with_reducible repeat (first | apply bN | apply bD | apply bA)); exact BK213.out) hb); have n8_ := qM (blk_below (g := gb230) (o := .cells #[.int .i64 t220, .int .i64 t221, .slice Ao277 x231002_5.length co277] 24 (0, 0)) (by (with_reducible repeat (first | apply bN | apply bD | apply bA)); exact BK230.out) hb); have n9_ := qM (blk_below (g := gb231) (o := .cells #[.int .i64 t225, .int .i64 t226, .slice Ao288 x232002_5.length co288] 24 (0, 0)) (by (with_reducible repeat (first | apply bN | apply bD | apply bA)); exact BK231.out) hb); have n10_ := qM (blk_below (g := gb238) (o := .cells #[.int .i64 t232, .int .i64 t233, u239002] 24 (0, 0)) (by (with_reducible repeat (first | apply bN | apply bD | apply bA)); exact BK238.out) hb); have n11_ := qM (blk_below (g := gb245) (o := .cells #[.int .i64 t239, .int .i64 t240, u246002] 24 (0, 0)) (by (with_reducible repeat (first | apply bN | apply bD | apply bA)); exact BK245.out) hb); have n12_ := qM (blk_below (g := gb260) (o := .cells #[.int .i64 t254, .int .i64 t255, .slice Ao263 x261002_5.length co263] 24 (0, 0)) (by (with_reducible repeat (first | apply bN | apply bD | apply bA)); exact BK260.out) hb); have n13_ := qM (blk_below (g := gb267) (o := .cells #[.int .i64 t261, .int .i64 t262, u268002] 24 (0, 0)) (by (with_reducible repeat (first | apply bN | apply bD | apply bA)); exact BK267.out) hb); have n14_ := qM (below_step (by repeat (first | (with_reducible first | exact HB.out | apply below_alloc | apply pw_below_drewN | apply below_drew1 | refine below_set ?_ GE212.out | refine below_set ?_ GE213.out | refine below_set ?_ GE230.out | refine below_set ?_ GE231.out | refine below_set ?_ GE238.out | refine below_set ?_ GE245.out | refine below_set ?_ GE260.out | refine below_set ?_ GE267.out) | exact HB.out)) hb); clear HO_231002; clear HO_232002; clear HO_239002; clear HO_246002; clear HO_261002; clear HO_268002; clear BK212; clear BK213; clear BK230; clear BK231; clear BK238; clear BK245; clear BK260; clear BK267; clear HB; have HO_231002 := n0_; have HO_232002 := n1_; have HO_239002 := n2_; have HO_246002 := n3_; have HO_261002 := n4_; have HO_268002 := n5_; have BK212 := n6_; have BK213 := n7_; have BK230 := n8_; have BK231 := n9_; have BK238 := n10_; have BK245 := n11_; have BK260 := n12_; have BK267 := n13_; have HB := n14_; clear n0_ n1_ n2_ n3_ n4_ n5_ n6_ n7_ n8_ n9_ n10_ n11_ n12_ n13_ n14_; (try clear hb); (try clear hb2); (try clear hk); (try clear hi)))
              go_ret
              exact ⟨by first | rfl | (simp [errW_none, errW_some] <;> rfl) | (simp [*, errW_none, errW_some] <;> rfl), by repeat (first | (with_reducible first | exact HB.out | apply below_alloc | apply pw_below_drewN | apply below_drew1 | refine below_set ?_ GE212.out | refine below_set ?_ GE213.out | refine below_set ?_ GE230.out | refine below_set ?_ GE231.out | refine below_set ?_ GE238.out | refine below_set ?_ GE245.out | refine below_set ?_ GE260.out | refine below_set ?_ GE267.out) | exact HB.out)⟩
            replace c253 := Bool.eq_false_iff.mpr c253
            subst c253
            have H1 : (some false) = some r := by rw [if_neg (show ¬ (false = true) by decide)] at H; exact H
            clear H
            have H := H1
            clear H1
            exact absurd (H.trans (congrArg some HRT.out)) (by simp)⟩
end Go.Proofs.Ytojedfmmijglnaa.PSpreadTells
