/- The law AcksJoin, walked. -/
import Derived.Test.YtbdimkpbkhcpfaaAckL3
namespace Go.Proofs.Ytbdimkpbkhcpfaa.PAcksPlays
open Go.RowKit Go.Proofs.YtbdimkpbkhcpfaaW.PrintWords Go.Proofs.YtbdimkpbkhcpfaaW.PrintLast Go.Proofs.YtbdimkpbkhcpfaaW.PrintMore
open Go.Proofs.YtbdimkpbkhcpfaaO
attribute [local go_sem] max2_int min2_int max_two min_two max_three min_three max_four min_four
set_option linter.unusedVariables false
set_option linter.unusedSimpArgs false
set_option maxHeartbeats 8000000 in
set_option maxRecDepth 100000 in
theorem AcksJoin_great1 (A : Option Addr) (c : Nat) (l : List S30) (A' : Option Addr) (c' : Nat) (m : List S30) (n : Int) (w : World) (hr : Kd.C k30 w A l.length l) (hc : l.length ≤ c) (hr' : Kd.C k30 w A' m.length m) (hc' : m.length ≤ c') (hg : meterlaw12_Great.f (2 * min l.length 61 + 2) l = some true) (hg' : True) :
    Calls Try.prog 4 #[.slice A l.length c, .slice A' m.length c', .int .i64 n] w fun e w' => e = .returned (.bool true) ∧ Below w.heap.size w w' := by
  have HR := Aside0.mk hr
  have HC := Aside0.mk hc
  have HR' := Aside0.mk hr'
  have HC' := Aside0.mk hc'
  have HG := Aside0.mk hg
  have HG' := Aside0.mk hg'
  clear hr hc hr' hc' hg hg'
  go_enter Try.func4, Try.ntmps4
  go_wp2_with (first
    | (go_at_call 8; ((with_reducible refine (awake_calls w).mono ?_)); rintro e w1 ⟨rfl, hb⟩; have H1 := Aside0.mk ((Own.nil w).below hb); clear hb)
    | (go_at_call 9; ((with_reducible refine (meterlaw12_Great.calls _ A c l true w1 (Kd.C_below HR.out H1.out.bel) HC.out HG.out).mono ?_)); rintro e w2 ⟨rfl, hb⟩; have H2 := Aside0.mk (H1.out.drawn hb); clear hb))
  go_ret
  exact ⟨rfl, H2.out.bel⟩
set_option maxHeartbeats 8000000 in
set_option maxRecDepth 100000 in
theorem AcksJoin_great2 (A : Option Addr) (c : Nat) (l : List S30) (A' : Option Addr) (c' : Nat) (m : List S30) (n : Int) (w : World) (hr : Kd.C k30 w A l.length l) (hc : l.length ≤ c) (hr' : Kd.C k30 w A' m.length m) (hc' : m.length ≤ c') (hg : meterlaw12_Great.f (2 * min l.length 61 + 2) l = some false) (hg' : meterlaw12_Great.f (2 * min m.length 61 + 2) m = some true) :
    Calls Try.prog 4 #[.slice A l.length c, .slice A' m.length c', .int .i64 n] w fun e w' => e = .returned (.bool true) ∧ Below w.heap.size w w' := by
  have HR := Aside0.mk hr
  have HC := Aside0.mk hc
  have HR' := Aside0.mk hr'
  have HC' := Aside0.mk hc'
  have HG := Aside0.mk hg
  have HG' := Aside0.mk hg'
  clear hr hc hr' hc' hg hg'
  go_enter Try.func4, Try.ntmps4
  go_wp2_with (first
    | (go_at_call 8; ((with_reducible refine (awake_calls w).mono ?_)); rintro e w1 ⟨rfl, hb⟩; have H1 := Aside0.mk ((Own.nil w).below hb); clear hb)
    | (go_at_call 9; ((with_reducible refine (meterlaw12_Great.calls _ A c l false w1 (Kd.C_below HR.out H1.out.bel) HC.out HG.out).mono ?_)); rintro e w2 ⟨rfl, hb⟩; have H2 := Aside0.mk (H1.out.drawn hb); clear hb)
    | (go_at_call 9; ((with_reducible refine (meterlaw12_Great.calls _ A' c' m true w2 (Kd.C_below HR'.out H2.out.bel) HC'.out HG'.out).mono ?_)); rintro e w3 ⟨rfl, hb⟩; have H3 := Aside0.mk (H2.out.drawn hb); clear hb))
  go_ret
  exact ⟨rfl, H3.out.bel⟩
set_option maxHeartbeats 8000000 in
set_option maxRecDepth 100000 in
theorem AcksJoin_in (A : Option Addr) (c : Nat) (l : List S30) (A' : Option Addr) (c' : Nat) (m : List S30) (n : Int) (w : World) (hr : Kd.C k30 w A l.length l) (hc : l.length ≤ c) (hr' : Kd.C k30 w A' m.length m) (hc' : m.length ≤ c') (hg : meterlaw12_Great.f (2 * min l.length 61 + 2) l = some false) (hg' : meterlaw12_Great.f (2 * min m.length 61 + 2) m = some false) (h5 : l.length ≤ 60) (h5' : m.length ≤ 60) (hx : ∀ x ∈ l, ActOk x) (hx' : ∀ x ∈ m, ActOk x) (hn : (Lit.int .i64 n).wf = true)
    (L M L1 L2 L3 : List Int) (lL lM l1 : Nat) (sL sM s1 : List Int) (HL : Hid (afterL l = L)) (HM : Hid (afterL m = M)) (FL : Aside0 (LowIs L lL ∧ SetIs L lL sL)) (FM : Aside0 (LowIs M lM ∧ SetIs M lM sM)) (F1 : Aside0 (LowIs L1 l1 ∧ SetIs L1 l1 s1)) (F2 : Aside0 (LowIs L2 l1 ∧ SetIs L2 l1 s1)) (F3 : Aside0 (LowIs L3 l1 ∧ SetIs L3 l1 s1))
    (E1 : Hid (mergeL M lL sL = L1)) (E2 : Hid (mergeL L l1 s1 = L2)) (E3 : Hid (mergeL L lM sM = L3)) (E4 : Hid (mergeL L2 l1 s1 = L2)) (E5 : Hid (mergeL L1 l1 s1 = L1))
    (WL : Aside0 (∀ x ∈ sL, (Lit.int .i64 x).wf = true)) (WM : Aside0 (∀ x ∈ sM, (Lit.int .i64 x).wf = true)) (W1 : Aside0 (∀ x ∈ s1, (Lit.int .i64 x).wf = true))
    (QL : Aside0 (L.length ≤ 1000000000)) (QM : Aside0 (M.length ≤ 1000000000)) (Q1 : Aside0 (L1.length ≤ 1000000000)) (Q2 : Aside0 (L2.length ≤ 1000000000)) (Q3 : Aside0 (L3.length ≤ 1000000000)) (S1L : Aside0 (s1.length ≤ 100000000))
    (B1L : Aside0 (M.length + sL.length ≤ 1000000000)) (B2L : Aside0 (L.length + s1.length ≤ 1000000000)) (B3L : Aside0 (L.length + sM.length ≤ 1000000000)) (B4L : Aside0 (L2.length + s1.length ≤ 1000000000)) (B5L : Aside0 (L1.length + s1.length ≤ 1000000000))
    (ba bb : Bool) (HBA : Hid (decide (n ∈ L) = ba)) (HBB : Hid (decide (n ∈ M) = bb)) (HB2 : Hid (decide (n ∈ L2) = (ba || bb))) (HB1 : Hid (decide (n ∈ L1) = (ba || bb))) :
    Calls Try.prog 4 #[.slice A l.length c, .slice A' m.length c', .int .i64 n] w fun e w' => e = .returned (.bool true) ∧ Below w.heap.size w w' := by
  have HR := Aside0.mk hr
  have HC := Aside0.mk hc
  have HR' := Aside0.mk hr'
  have HC' := Aside0.mk hc'
  have HG := Aside0.mk hg
  have HG' := Aside0.mk hg'
  have HX := Aside0.mk hx
  have HX' := Aside0.mk hx'
  have HN := Aside0.mk hn
  have H5 := Aside0.mk h5
  have H5' := Aside0.mk h5'
  clear hr hc hr' hc' hg hg' hx hx' hn h5 h5'
  cases ba <;> cases bb
  all_goals
  (
  go_enter Try.func4, Try.ntmps4
  go_wp2_with (first
    | (go_at_call 8; ((with_reducible refine (awake_calls w).mono ?_)); rintro e w1 ⟨rfl, hb⟩; have H1 := Aside0.mk ((Own.nil w).below hb); clear hb)
    | (go_at_call 9; ((with_reducible refine (meterlaw12_Great.calls _ A c l false w1 (Kd.C_below HR.out H1.out.bel) HC.out HG.out).mono ?_)); rintro e w2 ⟨rfl, hb⟩; have H2 := Aside0.mk (H1.out.drawn hb); clear hb)
    | (go_at_call 9; ((with_reducible refine (meterlaw12_Great.calls _ A' c' m false w2 (Kd.C_below HR'.out H2.out.bel) HC'.out HG'.out).mono ?_)); rintro e w3 ⟨rfl, hb⟩; have H3 := Aside0.mk (H2.out.drawn hb); clear hb)
    | (go_at_call 17; ((with_reducible refine (after_calls H3.out A c l HR.out HC.out HX.out H5.out).mono ?_)); rintro e w4 ⟨ga, rfl, h⟩; rw [HL.out] at h; have H4 := Aside0.mk h; clear h)
    | (go_at_call 17; ((with_reducible refine (after_calls H4.out A' c' m HR'.out HC'.out HX'.out H5'.out).mono ?_)); rintro e w5 ⟨gb, rfl, h⟩; rw [HM.out] at h; have H5a := Aside0.mk h.r1; clear h)
    | (go_at_call 14; ((with_reducible refine (AcksHas H5a.out n HN.out).mono ?_)); rintro e w6 ⟨rfl, h⟩; rw [HBA.out]; have H7 := Aside0.mk h; clear h)
    | (go_at_call 14; ((with_reducible refine (AcksHas H7.out.r1 n HN.out).mono ?_)); rintro e w7 ⟨rfl, h⟩; rw [HBB.out]; have H7 := Aside0.mk h.r1; clear h)
    | (go_at_call 13; ((with_reducible refine (AcksLowE H7.out lL FL.out.1).mono ?_)); rintro e w8 ⟨rfl, rfl⟩)
    | (go_at_call 12; ((with_reducible refine (AcksSetE H7.out QL.out lL sL FL.out.1 FL.out.2).mono ?_)); rintro e w9 ⟨B1, d1, rfl, _, h⟩; have H9 := Aside0.mk h.r2; clear h)
    | (go_at_call 15; ((with_reducible refine (AcksMergeR H9.out lL WL.out B1L.out L1 E1.out).mono ?_)); rintro e w10 ⟨rfl, h⟩; have H10 := Aside0.mk (h.pick [2, 0]); clear h)
    | (go_at_call 13; ((with_reducible refine (AcksLowE H10.out.r1 l1 F1.out.1).mono ?_)); rintro e w11 ⟨rfl, rfl⟩)
    | (go_at_call 12; ((with_reducible refine (AcksSetE H10.out.r1 Q1.out l1 s1 F1.out.1 F1.out.2).mono ?_)); rintro e w12 ⟨B2, d2, rfl, _, h⟩; have H12 := Aside0.mk h.r2; clear h)
    | (go_at_call 15; ((with_reducible refine (AcksMergeR H12.out l1 W1.out B2L.out L2 E2.out).mono ?_)); rintro e w13 ⟨rfl, h⟩; have H13 := Aside0.mk (h.pick [0, 2]); clear h)
    | (go_at_call 17; ((with_reducible refine (after_calls H13.out A c l HR.out HC.out HX.out H5.out).mono ?_)); rintro e w14 ⟨gc, rfl, h⟩; rw [HL.out] at h; have H14 := Aside0.mk h; clear h)
    | (go_at_call 17; ((with_reducible refine (after_calls H14.out A' c' m HR'.out HC'.out HX'.out H5'.out).mono ?_)); rintro e w15 ⟨gd, rfl, h⟩; rw [HM.out] at h; have H15 := Aside0.mk h; clear h)
    | (go_at_call 13; ((with_reducible refine (AcksLowE H15.out lM FM.out.1).mono ?_)); rintro e w16 ⟨rfl, rfl⟩)
    | (go_at_call 12; ((with_reducible refine (AcksSetE H15.out QM.out lM sM FM.out.1 FM.out.2).mono ?_)); rintro e w17 ⟨B3, d3, rfl, _, h⟩; have H17 := Aside0.mk h.r2; clear h)
    | (go_at_call 15; ((with_reducible refine (AcksMergeR H17.out lM WM.out B3L.out L3 E3.out).mono ?_)); rintro e w18 ⟨rfl, h⟩; have H18 := Aside0.mk (h.pick [3, 4, 0]); clear h)
    | (go_at_call 13; ((with_reducible refine (AcksLowE H18.out l1 F2.out.1).mono ?_)); rintro e w19 ⟨rfl, rfl⟩)
    | (go_at_call 13; ((with_reducible refine (AcksLowE H18.out.r1 l1 F1.out.1).mono ?_)); rintro e w20 ⟨rfl, rfl⟩)
    | (go_at_call 12; ((with_reducible refine (AcksSetE H18.out Q2.out l1 s1 F2.out.1 F2.out.2).mono ?_)); rintro e w21 ⟨B4, d4, rfl, _, h⟩; have H21 := Aside0.mk h.r2; clear h)
    | (go_at_call 12; ((with_reducible refine (AcksSetE H21.out Q1.out l1 s1 F1.out.1 F1.out.2).mono ?_)); rintro e w22 ⟨B5, d5, rfl, _, h⟩; have H22 := Aside0.mk h; clear h)
    | (go_at_call 16; ((with_reducible refine (same_calls B4 d4 B5 d5 s1 S1L.out (row_C H22.out.r2) (row_C H22.out)).mono ?_)); rintro e w23 ⟨rfl, hb⟩; have H23 := Aside0.mk ((H22.out.drawn hb).pick [3, 1, 4]); clear hb)
    | (go_at_call 13; ((with_reducible refine (AcksLowE H23.out l1 F2.out.1).mono ?_)); rintro e w24 ⟨rfl, rfl⟩)
    | (go_at_call 13; ((with_reducible refine (AcksLowE H23.out.r2 l1 F3.out.1).mono ?_)); rintro e w25 ⟨rfl, rfl⟩)
    | (go_at_call 12; ((with_reducible refine (AcksSetE H23.out Q2.out l1 s1 F2.out.1 F2.out.2).mono ?_)); rintro e w26 ⟨B6, d6, rfl, _, h⟩; have H26 := Aside0.mk h.r3; clear h)
    | (go_at_call 12; ((with_reducible refine (AcksSetE H26.out Q3.out l1 s1 F3.out.1 F3.out.2).mono ?_)); rintro e w27 ⟨B7, d7, rfl, _, h⟩; have H27 := Aside0.mk h; clear h)
    | (go_at_call 16; ((with_reducible refine (same_calls B6 d6 B7 d7 s1 S1L.out (row_C H27.out.r2) (row_C H27.out)).mono ?_)); rintro e w28 ⟨rfl, hb⟩; have H28 := Aside0.mk ((H27.out.drawn hb).pick [3, 4, 1]); clear hb)
    | (go_at_call 14; ((with_reducible refine (AcksHas H28.out n HN.out).mono ?_)); rintro e w29 ⟨rfl, h⟩; rw [HB2.out]; have H29 := Aside0.mk h.r1; clear h)
    | (go_at_call 14; ((with_reducible refine (AcksHas H29.out n HN.out).mono ?_)); rintro e w30 ⟨rfl, h⟩; rw [HB1.out]; have H30 := Aside0.mk h; clear h)
    | (go_at_call 13; ((with_reducible refine (AcksLowE H30.out l1 F1.out.1).mono ?_)); rintro e w31 ⟨rfl, rfl⟩)
    | (go_at_call 12; ((with_reducible refine (AcksSetE H30.out Q1.out l1 s1 F1.out.1 F1.out.2).mono ?_)); rintro e w32 ⟨B8, d8, rfl, _, h⟩; have H32 := Aside0.mk h.r2; clear h)
    | (go_at_call 15; ((with_reducible refine (AcksMergeR H32.out l1 W1.out B4L.out L2 E4.out).mono ?_)); rintro e w33 ⟨rfl, h⟩; have H33 := Aside0.mk (h.pick [3, 2, 0]); clear h)
    | (go_at_call 13; ((with_reducible refine (AcksLowE H33.out l1 F3.out.1).mono ?_)); rintro e w34 ⟨rfl, rfl⟩)
    | (go_at_call 12; ((with_reducible refine (AcksSetE H33.out Q3.out l1 s1 F3.out.1 F3.out.2).mono ?_)); rintro e w35 ⟨B9, d9, rfl, _, h⟩; have H35 := Aside0.mk h.r2; clear h)
    | (go_at_call 15; ((with_reducible refine (AcksMergeR H35.out l1 W1.out B5L.out L1 E5.out).mono ?_)); rintro e w36 ⟨rfl, h⟩; have H36 := Aside0.mk h; clear h))
  go_ret
  exact ⟨rfl, H36.out.bel⟩)
theorem AcksJoin_small (A : Option Addr) (c : Nat) (l : List S30) (A' : Option Addr) (c' : Nat) (m : List S30) (n : Int) (w : World) (hr : Kd.C k30 w A l.length l) (hc : l.length ≤ c) (hr' : Kd.C k30 w A' m.length m) (hc' : m.length ≤ c') (hg : meterlaw12_Great.f (2 * min l.length 61 + 2) l = some false) (hg' : meterlaw12_Great.f (2 * min m.length 61 + 2) m = some false) (h5 : l.length ≤ 60) (h5' : m.length ≤ 60) (hx : ∀ x ∈ l, ActOk x) (hx' : ∀ x ∈ m, ActOk x) (hn : (Lit.int .i64 n).wf = true) :
    Calls Try.prog 4 #[.slice A l.length c, .slice A' m.length c', .int .i64 n] w fun e w' => e = .returned (.bool true) ∧ Below w.heap.size w w' := by
  have qL := afterL_len l hx h5
  have qM := afterL_len m hx' h5'
  have rL := right_after l
  have rM := right_after m
  obtain ⟨L, hL⟩ : ∃ L, afterL l = L := ⟨_, rfl⟩
  obtain ⟨M, hM⟩ : ∃ M, afterL m = M := ⟨_, rfl⟩
  rw [hL] at qL rL
  rw [hM] at qM rM
  obtain ⟨lL, sL, fL⟩ := facts_ex L
  obtain ⟨lM, sM, fM⟩ := facts_ex M
  have sLl := set_len fL.2
  have sMl := set_len fM.2
  have lLl := low_len fL.1.1
  have lMl := low_len fM.1.1
  have m1 := merge_mem M L rL fL.1 fL.2 (by omega)
  have n1 := merge_len M lL sL (by omega)
  have r1 := right_merge rM (lL : Int) sL
  obtain ⟨L1, e1⟩ : ∃ L1, mergeL M lL sL = L1 := ⟨_, rfl⟩
  rw [e1] at m1 n1 r1
  obtain ⟨l1, s1, f1⟩ := facts_ex L1
  have s1l := set_len f1.2
  have l1l := low_len f1.1.1
  have m2 := merge_mem L L1 r1 f1.1 f1.2 (by omega)
  have n2 := merge_len L l1 s1 (by omega)
  obtain ⟨L2, e2⟩ : ∃ L2, mergeL L l1 s1 = L2 := ⟨_, rfl⟩
  rw [e2] at m2 n2
  have m3 := merge_mem L M rM fM.1 fM.2 (by omega)
  have n3 := merge_len L lM sM (by omega)
  obtain ⟨L3, e3⟩ : ∃ L3, mergeL L lM sM = L3 := ⟨_, rfl⟩
  rw [e3] at m3 n3
  have i2 : ∀ x, x ∈ L1 ↔ x ∈ L2 := fun x => by rw [m2, m1]; exact ⟨fun h => h.elim (fun h => .inr (.inl h)) .inl, fun h => h.elim .inr id⟩
  have i3 : ∀ x, x ∈ L1 ↔ x ∈ L3 := fun x => by rw [m3, m1]; exact Or.comm
  have f2 : LowIs L2 l1 ∧ SetIs L2 l1 s1 := ⟨f1.1.congr i2, f1.2.congr i2⟩
  have f3 : LowIs L3 l1 ∧ SetIs L3 l1 s1 := ⟨f1.1.congr i3, f1.2.congr i3⟩
  have b1 : decide (n ∈ L1) = (decide (n ∈ L) || decide (n ∈ M)) := by
    rw [← Bool.decide_or]
    exact decide_eq_decide.2 ((m1 n).trans Or.comm)
  have b2 : decide (n ∈ L2) = (decide (n ∈ L) || decide (n ∈ M)) := by
    rw [← b1]
    exact decide_eq_decide.2 (i2 n).symm
  exact AcksJoin_in A c l A' c' m n w hr hc hr' hc' hg hg' h5 h5' hx hx' hn L M L1 L2 L3 lL lM l1 sL sM s1 (Lib.hid hL) (Lib.hid hM) ⟨fL⟩ ⟨fM⟩ ⟨f1⟩ ⟨f2⟩ ⟨f3⟩ (Lib.hid e1) (Lib.hid e2) (Lib.hid e3)
    (Lib.hid (merge_same L2 f2.1 f2.2 (by omega))) (Lib.hid (merge_same L1 f1.1 f1.2 (by omega))) ⟨set_wf rL fL.2⟩ ⟨set_wf rM fM.2⟩ ⟨set_wf r1 f1.2⟩
    ⟨by omega⟩ ⟨by omega⟩ ⟨by omega⟩ ⟨by omega⟩ ⟨by omega⟩ ⟨by omega⟩ ⟨by omega⟩ ⟨by omega⟩ ⟨by omega⟩ ⟨by omega⟩ ⟨by omega⟩ (decide (n ∈ L)) (decide (n ∈ M)) (Lib.hid rfl) (Lib.hid rfl) (Lib.hid b2) (Lib.hid b1)
theorem AcksJoin_law (A : Option Addr) (c : Nat) (l : List S30) (A' : Option Addr) (c' : Nat) (m : List S30) (n : Int) (w : World) (hr : Kd.C k30 w A l.length l) (hc : l.length ≤ c) (hq : l.length ≤ 9223372036854775807 ∧ ∀ x ∈ l, Q30 x) (hr' : Kd.C k30 w A' m.length m) (hc' : m.length ≤ c') (hq' : m.length ≤ 9223372036854775807 ∧ ∀ x ∈ m, Q30 x) (hn : (Lit.int .i64 n).wf = true) :
    Calls Try.prog 4 #[.slice A l.length c, .slice A' m.length c', .int .i64 n] w fun e w' => e = .returned (.bool true) ∧ Below w.heap.size w w' := by
  obtain ⟨r, hg, hgf⟩ := great_f l
  obtain ⟨r', hg', hgf'⟩ := great_f m
  cases r with
  | true => exact AcksJoin_great1 A c l A' c' m n w hr hc hr' hc' hg trivial
  | false =>
    cases r' with
    | true => exact AcksJoin_great2 A c l A' c' m n w hr hc hr' hc' hg hg'
    | false => exact AcksJoin_small A c l A' c' m n w hr hc hr' hc' hg hg' (hgf rfl).1 (hgf' rfl).1 (fun x hx => ok_of_Q x (hq.2 x hx) ((hgf rfl).2 x hx)) (fun x hx => ok_of_Q x (hq'.2 x hx) ((hgf' rfl).2 x hx)) hn
end Go.Proofs.Ytbdimkpbkhcpfaa.PAcksPlays
