/- The law AcksAlike, walked. -/
import Derived.Test.YtbdimkpbkhcpfaaAckL5
import Derived.StillTailTactics
import Derived.BigQuiet
namespace Go.Proofs.Ytbdimkpbkhcpfaa.PAcksPlays
open Go.RowKit Go.Proofs.YtbdimkpbkhcpfaaW.PrintWords Go.Proofs.YtbdimkpbkhcpfaaW.PrintLast Go.Proofs.YtbdimkpbkhcpfaaW.PrintMore
open Go.Proofs.YtbdimkpbkhcpfaaO
attribute [local go_sem] max2_int min2_int max_two min_two max_three min_three max_four min_four
set_option linter.unusedVariables false
set_option linter.unusedSimpArgs false
theorem add_zero' (p : Addr) : p.add 0 = p := by cases p; simp [Addr.add]
theorem tail_drew {P : Program} {id : Nat} {Q : Exit → Act → World → Prop} {a : Act} {w : World} {l : List Oper} (n : Nat) (hm : P.follows .mixedOrders = true) (hB : Region.lexTailB .any l.toArray n = true) (wd : World) (hwd : Hid (wd = w.drew))
    (h : wpStill P l.toArray wd (fun a' => wpList P l.toArray Q (l.drop n) a' wd) (l.take n) a) : (Code.region id l.toArray true).wp P Q a w := by
  have hwd := hwd.out
  subst hwd
  exact wp_region_still_tail n hm hB h
set_option maxHeartbeats 8000000 in
set_option maxRecDepth 100000 in
theorem AcksAlike_great (A : Option Addr) (c : Nat) (l : List S30) (w : World) (hr : Kd.C k30 w A l.length l) (hc : l.length ≤ c) (hg : meterlaw12_Great.f (2 * min l.length 61 + 2) l = some true) :
    Calls Try.prog 3 #[.slice A l.length c] w fun e w' => e = .returned (.bool true) ∧ Below w.heap.size w w' := by
  have HR := Aside0.mk hr
  have HC := Aside0.mk hc
  have HG := Aside0.mk hg
  clear hr hc hg
  go_enter Try.func3, Try.ntmps3
  go_wp2_with (first
    | (go_at_call 8; ((with_reducible refine (awake_calls w).mono ?_)); rintro e w1 ⟨rfl, hb⟩; have H1 := Aside0.mk ((Own.nil w).below hb); clear hb)
    | (go_at_call 9; ((with_reducible refine (meterlaw12_Great.calls _ A c l true w1 (Kd.C_below HR.out H1.out.bel) HC.out HG.out).mono ?_)); rintro e w2 ⟨rfl, hb⟩; have H2 := Aside0.mk (H1.out.drawn hb); clear hb))
  go_ret
  exact ⟨rfl, H2.out.bel⟩
set_option maxHeartbeats 8000000 in
set_option maxRecDepth 100000 in
theorem AcksAlike_small (A : Option Addr) (c : Nat) (l : List S30) (w : World) (hr : Kd.C k30 w A l.length l) (hc : l.length ≤ c) (hg : meterlaw12_Great.f (2 * min l.length 61 + 2) l = some false) (h5 : l.length ≤ 60) (hx : ∀ x ∈ l, ActOk x) :
    Calls Try.prog 3 #[.slice A l.length c] w fun e w' => e = .returned (.bool true) ∧ Below w.heap.size w w' := by
  have HR := Aside0.mk hr
  have HC := Aside0.mk hc
  have HG := Aside0.mk hg
  have HX := Aside0.mk hx
  have HLN := Aside0.mk (fun k : Nat => show (afterL (l.take k)).length ≤ 13200 from afterL_len (l.take k) (fun x h => hx x (List.mem_of_mem_take h)) (by rw [List.length_take]; omega))
  clear hr hc hg hx
  go_enter Try.func3, Try.ntmps3
  go_wp2_with (first
    | (go_at_call 8; ((with_reducible refine (awake_calls w).mono ?_)); rintro e w1 ⟨rfl, hb⟩; have H1 := Aside0.mk ((Own.nil w).below hb); clear hb)
    | (go_at_call 9; ((with_reducible refine (meterlaw12_Great.calls _ A c l false w1 (Kd.C_below HR.out H1.out.bel) HC.out HG.out).mono ?_)); rintro e w2 ⟨rfl, hb⟩; have H2 := Aside0.mk (H1.out.drawn hb); clear hb)
    | (go_at_call 10; ((with_reducible refine (AcksNew H2.out).mono ?_)); rintro e w3 ⟨ga, rfl, h⟩; have H3 := Aside0.mk h; clear h)
    | (go_at_call 10; ((with_reducible refine (AcksNew H3.out).mono ?_)); rintro e w4 ⟨gb, rfl, h⟩; have H4 := Aside0.mk h; clear h))
  go_loopw [5, 6] (fun v5 v6 wr => ∃ (k lw : Nat), k ≤ l.length ∧ Hid (LowIs (afterL (l.take k)) lw) ∧ v5 = .int .i64 lw ∧ v6 = .int .i64 k ∧ Aside0 (Own w wr (Acks ga (afterL (l.take k)) :: Acks gb [] :: []))) (fun _ v6 _ => l.length - (RowKit.intOf v6).toNat)
  case atStart => exact ⟨0, 0, Nat.zero_le _, Lib.hid low0, rfl, rfl, ⟨H4.out.r1⟩⟩
  case round =>
    obtain ⟨k, lw, hk, hlw, rfl, rfl, HO⟩ := hrel
    by_cases hlt : k < l.length
    · have hxk := HX.out _ (List.getElem_mem hlt)
      have hsn := afterL_snoc l k hlt
      have hgk := List.getElem?_eq_getElem hlt
      have hln := HLN.out k
      generalize l[k] = x at hxk hsn hgk
      have hsub : ∀ y ∈ afterL (l.take k), y ∈ afterL (l.take (k + 1)) := fun y hy => by rw [hsn]; exact (tellL_mem _ x y).2 (.inl hy)
      obtain ⟨f0, f1, f2⟩ := x
      rcases A with _ | ad
      · exact absurd (HR.out.2.2 (by omega)) (by rintro ⟨_, h, _⟩; cases h)
      obtain ⟨lw', s, hlw', hs'⟩ := facts_ex (afterL (l.take (k + 1)))
      have hmono := low_mono hlw.out hlw' hsub
      have hln' := HLN.out (k + 1)
      have hrt := right_after (l.take (k + 1))
      obtain ⟨L', hL'⟩ : ∃ L', afterL (l.take (k + 1)) = L' := ⟨_, rfl⟩
      rw [hL'] at hlw' hs' hsn hln' hrt
      have HSN := Lib.hid hsn
      have HL' := Lib.hid hL'
      have HLW' := Aside0.mk hlw'
      have HS' := Aside0.mk hs'
      have HRT := Aside0.mk hrt
      have hsl := set_len hs'
      have hlo := low_len hlw'.1
      have HLE := Aside0.mk (show L'.length ≤ 1000000000 by omega)
      have HXK := Aside0.mk hxk
      have HLN2 := Aside0.mk (show (afterL (l.take k)).length ≤ 100000000 by omega)
      have hd1 : decide (lw' < lw) = false := decide_eq_false (by omega)
      obtain ⟨A2, c2, a0, a1, a2, a3, a4⟩ := elem_at HR.out HO.out.bel k hlt f0 f1 f2 hgk
      have HC2 := Aside0.mk a4
      clear hgk hxk a4 hsub hsn hL' hlw hlw' hs' hrt hmono hln
      go_wp2_with (first
        | (go_at_call 11; ((with_reducible refine (tell_calls HO.out f0 f1 A2 c2 f2 HXK.out a3 HC2.out HLN2.out).mono ?_)); rintro e w5 ⟨rfl, h⟩; rw [← HSN.out] at h; have H5 := Aside0.mk h; clear h a0 a1 a2)
        | (go_at_call 12; ((with_reducible refine (AcksSetE H5.out HLE.out lw' s HLW'.out HS'.out).mono ?_)); rintro e w6 ⟨B, d, rfl, _, h⟩; have H6 := Aside0.mk h; clear h)
        | (go_at_call 13; ((with_reducible refine (AcksLowE H6.out.r1 lw' HLW'.out).mono ?_)); rintro e w7 ⟨rfl, rfl⟩))
      rename World => wo
      go_loopw [8] (fun v8 wr => ∃ j : Nat, j ≤ s.length ∧ v8 = .int .i64 j ∧ Aside0 (Own w wr (Row (Kd.int .i64) 3 (.slice B s.length d) s :: Acks ga L' :: Acks gb [] :: []))) (fun v8 _ => s.length - (RowKit.intOf v8).toNat)
      case atStart => exact ⟨0, Nat.zero_le _, rfl, H6⟩
      case round =>
        obtain ⟨j, hj, rfl, HQ⟩ := hrel
        by_cases hjs : j < s.length
        · have hgj := List.getElem?_eq_getElem hjs
          obtain ⟨x, hx⟩ : ∃ x, s[j] = x := ⟨_, rfl⟩
          rw [hx] at hgj
          obtain ⟨ab, rfl, hcj⟩ := own_int_at HQ.out j x hgj
          obtain ⟨hab, hin⟩ := set_above HLW'.out HS'.out j x hgj
          have hxr := HRT.out.2 x hin
          have HXW := Aside0.mk (wf64 x (by omega) (by omega))
          have HIN := Lib.hid (decide_eq_true hin)
          have dA : decide (x ≤ (lw' : Int) + 1) = false := decide_eq_false (by omega)
          have hw1 : IntKind.i64.wrap ((lw' : Int) + 1) = (lw' : Int) + 1 := IntWalk.i64_in _ (by omega)
          cases j with
          | zero =>
            obtain ⟨wd, hwd⟩ : ∃ wd, wd = wr.drew := ⟨_, rfl⟩
            have hcd : wd.cell? ab = some (.int .i64 x) := by rw [hwd]; rw [add_zero'] at hcj; exact hcj
            have HD := Aside0.mk (show Own w wd _ by rw [hwd]; exact HQ.out.drew)
            have HWD := Lib.hid hwd
            clear hwd hcj hgj hab hin hxr
            go_wp2
            refine tail_drew 29 (by kernel_rfl) (by kernel_rfl) wd HWD ?_
            simp only [List.take_succ_cons, List.take_zero, List.drop_succ_cons, List.drop_zero]
            repeat ((with_reducible refine wpStill_step (fun K hK => ?_)); go_simp; (with_reducible refine hK _ ?_); clear hK K)
            with_reducible refine wpStill_nil ?_
            go_wp2_with (go_at_call 14; ((with_reducible refine (AcksHas HD.out.r1 x HXW.out).mono ?_)); rintro e w9 ⟨rfl, h⟩; rw [HIN.out]; have H9 := Aside0.mk h.r1; clear h)
            go_roundw
            case rel => exact ⟨1, by omega, by first | rfl | go_num, H9⟩
            case measure => simp [RowKit.intOf]; omega
          | succ i =>
            have hgi := List.getElem?_eq_getElem (show i < s.length by omega)
            obtain ⟨y, hy⟩ : ∃ y, s[i] = y := ⟨_, rfl⟩
            rw [hy] at hgi
            obtain ⟨ab', hab', hci⟩ := own_int_at HQ.out i y hgi
            cases hab'
            have hyx := set_asc HS'.out i x y hgj hgi
            obtain ⟨wd, hwd⟩ : ∃ wd, wd = wr.drew := ⟨_, rfl⟩
            have hcd : wd.cell? (ab.add (i + 1)) = some (.int .i64 x) := by rw [hwd]; exact hcj
            have hcd2 : wd.cell? (ab.add i) = some (.int .i64 y) := by rw [hwd]; exact hci
            have hcd3 : wd.cell? { block := ab.block, off := ab.off + (i + 1) } = some (.int .i64 x) := hcd
            have HD := Aside0.mk (show Own w wd _ by rw [hwd]; exact HQ.out.drew)
            have HWD := Lib.hid hwd
            have dB : decide (x ≤ y) = false := decide_eq_false (by omega)
            have dC : decide (0 < (i : Int) + 1) = true := decide_eq_true (by omega)
            have i1 : 0 ≤ (i : Int) + 1 := by omega
            have i2 : ((i : Int) + 1).toNat = i + 1 := by omega
            have i3 : (i : Int) + 1 < (s.length : Int) := by omega
            have i4 : (i : Int) < (s.length : Int) := by omega
            have i5 : IntKind.i64.wrap ((i : Int) + 1 - 1) = (i : Int) := by rw [show (i : Int) + 1 - 1 = i by omega]; exact IntWalk.i64_in _ (by omega)
            have i6 : IntKind.i64.wrap (i : Int) = (i : Int) := IntWalk.i64_in _ (by omega)
            clear hwd hcj hci hgj hgi hy hx hab hin hxr hyx
            rw [show (((i + 1 : Nat)) : Int) = (i : Int) + 1 from rfl]
            go_wp2
            refine tail_drew 29 (by kernel_rfl) (by kernel_rfl) wd HWD ?_
            simp only [List.take_succ_cons, List.take_zero, List.drop_succ_cons, List.drop_zero]
            repeat ((with_reducible refine wpStill_step (fun K hK => ?_)); go_simp; (with_reducible refine hK _ ?_); clear hK K)
            with_reducible refine wpStill_nil ?_
            go_wp2_with (go_at_call 14; ((with_reducible refine (AcksHas HD.out.r1 x HXW.out).mono ?_)); rintro e w9 ⟨rfl, h⟩; rw [HIN.out]; have H9 := Aside0.mk h.r1; clear h)
            go_roundw
            case rel => exact ⟨i + 2, by omega, by first | rfl | go_num, H9⟩
            case measure => simp [RowKit.intOf]; omega
        · have hj' : j = s.length := by omega
          subst hj'
          go_wp2
          go_roundw
          case rel => exact ⟨k + 1, lw', by omega, Lib.hid (by rw [HL'.out]; exact HLW'.out), rfl, by go_num, ⟨by rw [HL'.out]; exact HQ.out.tail⟩⟩
          case measure => simp [RowKit.intOf]; omega
    · have hk' : k = l.length := by omega
      subst hk'
      rw [List.take_length] at HO hlw
      have qL := HLN.out l.length
      rw [List.take_length] at qL
      have hrt := right_after l
      have ham := after_mem l
      obtain ⟨lo, s, hlo, hss⟩ := facts_ex (afterL l)
      obtain rfl := hlw.out.uniq hlo
      obtain ⟨La, hLa⟩ : ∃ La, afterL l = La := ⟨_, rfl⟩
      rw [hLa] at HO hlo hss qL hrt ham
      clear hlw hLa
      have FA := Aside0.mk (show LowIs La lw ∧ SetIs La lw s from ⟨hlo, hss⟩)
      have HRT := Aside0.mk hrt
      have HAM := Aside0.mk ham
      have QL := Aside0.mk qL
      clear hlo hss qL hrt ham
      go_wp2
      rename World => wo
      go_loopw [9] (fun v9 wr => ∃ (p : Nat) (B : List Int), p ≤ l.length ∧ v9 = .int .i64 ((p : Int) - 1) ∧ Aside0 ((∀ y ∈ B, y ∈ La) ∧ (∀ j (h : j < l.length), p ≤ j → ∀ y, news l[j] y → y ∈ B)) ∧ Aside0 (Own w wr (Acks gb B :: Acks ga La :: []))) (fun v9 _ => (RowKit.intOf v9 + 1).toNat)
      case atStart => exact ⟨l.length, [], Nat.le_refl _, rfl, ⟨by simp, fun j h1 h2 => by omega⟩, ⟨HO.out.r1⟩⟩
      case round =>
        obtain ⟨p, B, hp, rfl, HB, HQ⟩ := hrel
        have hBl : B.length ≤ La.length := sub_len B La (acks_right HQ.out).1 HB.out.1
        have qL := QL.out
        cases p with
        | succ i =>
          rw [show (((i + 1 : Nat)) : Int) - 1 = (i : Int) by omega]
          have hq := Nat.mod_lt (i * 7) (show 0 < l.length by omega)
          obtain ⟨q, hqe⟩ : ∃ q, i * 7 % l.length = q := ⟨_, rfl⟩
          rw [hqe] at hq
          have hqi : ((i : Int) * 7) % (l.length : Int) = (q : Int) := by rw [← hqe]; simp
          have hqt : ((i : Int) * 7).tmod (l.length : Int) = (q : Int) := by rw [Int.tmod_eq_emod_of_nonneg (by omega), hqi]
          have hxi := HX.out _ (List.getElem_mem (show i < l.length by omega))
          have hgi := List.getElem?_eq_getElem (show i < l.length by omega)
          have hxq := HX.out _ (List.getElem_mem hq)
          have hgq := List.getElem?_eq_getElem hq
          have hni : ∀ y, news l[i] y → y ∈ La := fun y hy => (HAM.out y).2 ⟨_, List.getElem_mem (show i < l.length by omega), hy⟩
          have hnq : ∀ y, news l[q] y → y ∈ La := fun y hy => (HAM.out y).2 ⟨_, List.getElem_mem hq, hy⟩
          have hnj : ∀ j (h : j < l.length), i ≤ j → j = i ∨ i + 1 ≤ j := fun j _ _ => by omega
          have HBJ := HB.out.2
          obtain ⟨x, hx⟩ : ∃ x, l[i] = x := ⟨_, rfl⟩
          obtain ⟨x', hx'⟩ : ∃ x', l[q] = x' := ⟨_, rfl⟩
          have hB2 : (∀ y ∈ tellL (tellL B x) x', y ∈ La) ∧ (∀ j (h : j < l.length), i ≤ j → ∀ y, news l[j] y → y ∈ tellL (tellL B x) x') := by
            refine ⟨fun y hy => ?_, fun j h h2 y hy => ?_⟩
            · rcases (tellL_mem _ x' y).1 hy with hy | hy
              · rcases (tellL_mem _ x y).1 hy with hy | hy
                · exact HB.out.1 y hy
                · exact hni y (hx ▸ hy)
              · exact hnq y (hx' ▸ hy)
            · refine (tellL_mem _ x' y).2 (.inl ((tellL_mem _ x y).2 ?_))
              rcases hnj j h h2 with e | e
              · subst e
                exact .inr (hx ▸ hy)
              · exact .inl (HBJ j h e y hy)
          have HB2 := Aside0.mk hB2
          rw [hx] at hxi hgi
          rw [hx'] at hxq hgq
          obtain ⟨f0, f1, f2⟩ := x
          obtain ⟨e0, e1, e2⟩ := x'
          have hl1 := (tellL_len B ⟨f0, f1, f2⟩ hxi).2
          have HXI := Aside0.mk hxi
          have HXQ := Aside0.mk hxq
          rcases A with _ | ad
          · exact absurd (HR.out.2.2 (by omega)) (by rintro ⟨_, h, _⟩; cases h)
          obtain ⟨A2, c2, a0, a1, a2, a3, a4⟩ := elem_at HR.out HQ.out.bel i (by omega) f0 f1 f2 hgi
          have HC2 := Aside0.mk a4
          have HQL := Aside0.mk (show B.length ≤ 100000000 by omega)
          have HQL2 := Aside0.mk (show (tellL B ⟨f0, f1, f2⟩).length ≤ 100000000 by omega)
          have HGQ := Aside0.mk hgq
          have HHQ := Aside0.mk hq
          obtain ⟨B1, hB1⟩ : ∃ B1, tellL B ⟨f0, f1, f2⟩ = B1 := ⟨_, rfl⟩
          rw [hB1] at HQL2 HB2
          have HB1 := Lib.hid hB1
          obtain ⟨B2, hB2e⟩ : ∃ B2, tellL B1 ⟨e0, e1, e2⟩ = B2 := ⟨_, rfl⟩
          rw [hB2e] at HB2
          have HB2E := Lib.hid hB2e
          clear hni hnq hnj HBJ hB2 hx hx' hxi hgi hxq hgq hl1 a4 hBl qL hqe hB1 hB2e
          go_wp2_with (first
            | (go_at_call 11; ((with_reducible refine (tell_calls HQ.out f0 f1 A2 c2 f2 HXI.out a3 HC2.out HQL.out).mono ?_)); rintro e w5 ⟨rfl, h⟩; rw [HB1.out] at h; have H5 := Aside0.mk h; clear h a0 a1 a2 a3; obtain ⟨A3, c3, a0, a1, a2, a3, a4⟩ := elem_at HR.out H5.out.bel q HHQ.out e0 e1 e2 HGQ.out; have HC3 := Aside0.mk a4; clear a4)
            | (go_at_call 11; ((with_reducible refine (tell_calls H5.out e0 e1 A3 c3 e2 HXQ.out a3 HC3.out HQL2.out).mono ?_)); rintro e w6 ⟨rfl, h⟩; rw [HB2E.out] at h; have H6 := Aside0.mk h; clear h a0 a1 a2 a3))
          go_roundw
          case rel => exact ⟨i, B2, by omega, by first | rfl | go_num, HB2, H6⟩
          case measure => first | (simp [RowKit.intOf]; done) | (simp [RowKit.intOf]; omega)
        | zero =>
          have hmm : ∀ y, y ∈ La ↔ y ∈ B := fun y => ⟨fun hy => by
            obtain ⟨x, hx, hn⟩ := (HAM.out y).1 hy
            obtain ⟨j, hj⟩ := List.getElem?_of_mem hx
            obtain ⟨hjl, rfl⟩ := List.getElem?_eq_some_iff.1 hj
            exact HB.out.2 j hjl (Nat.zero_le _) y hn, HB.out.1 y⟩
          have FB := Aside0.mk (show LowIs B lw ∧ SetIs B lw s from ⟨FA.out.1.congr hmm, FA.out.2.congr hmm⟩)
          have hmc := merge_mem [] La HRT.out FA.out.1 FA.out.2 (by omega)
          have hcc := merge_count HRT.out FA.out.1 FA.out.2 (by omega)
          have hsl := set_len FA.out.2
          have hlo := low_len FA.out.1.1
          obtain ⟨C, hC⟩ : ∃ C, mergeL [] lw s = C := ⟨_, rfl⟩
          rw [hC] at hmc hcc
          have hmc2 : ∀ y, y ∈ La ↔ y ∈ C := fun y => by rw [hmc]; simp
          have FC := Aside0.mk (show LowIs C lw ∧ SetIs C lw s from ⟨FA.out.1.congr hmc2, FA.out.2.congr hmc2⟩)
          have EC := Lib.hid hC
          have EC2 := Lib.hid (merge_same C FC.out.1 FC.out.2 (by omega))
          have ZC := Lib.hid (show (C.length : Int) - (([] : List Int).length : Int) = (lw : Int) + (s.length : Int) by rw [hcc]; simp)
          have WS := Aside0.mk (set_wf HRT.out FA.out.2)
          have NS := Aside0.mk (show ([] : List Int).length + s.length ≤ 1000000000 by simp; omega)
          have NC := Aside0.mk (show C.length + s.length ≤ 1000000000 by omega)
          have QA := Aside0.mk (show La.length ≤ 1000000000 by omega)
          have QB := Aside0.mk (show B.length ≤ 1000000000 by omega)
          have QC := Aside0.mk (show C.length ≤ 1000000000 by omega)
          have SL := Aside0.mk (show s.length ≤ 100000000 by omega)
          rw [show (((0 : Nat)) : Int) - 1 = -1 from rfl]
          clear hmm hmc hmc2 hcc hC hBl
          go_wp2_with (first
            | (go_at_call 10; ((with_reducible refine (AcksNew HQ.out).mono ?_)); rintro e w51 ⟨gc, rfl, h⟩; have H1 := Aside0.mk (h.pick [2, 0, 1]); clear h)
            | (go_at_call 13; ((with_reducible refine (AcksLowE H1.out lw FA.out.1).mono ?_)); rintro e w52 ⟨rfl, rfl⟩)
            | (go_at_call 12; ((with_reducible refine (AcksSetE H1.out QA.out lw s FA.out.1 FA.out.2).mono ?_)); rintro e w53 ⟨D53, d53, rfl, _, h⟩; have H53 := Aside0.mk (h.pick [2, 0, 1, 3]); clear h)
            | (go_at_call 15; ((with_reducible refine (AcksMergeN (n := s.length) H53.out rfl lw WS.out NS.out C EC.out _ ZC.out).mono ?_)); rintro e w54 ⟨rfl, h⟩; have H54 := Aside0.mk (h.pick [2, 0, 3]); clear h)
            | (go_at_call 13; ((with_reducible refine (AcksLowE H54.out lw FA.out.1).mono ?_)); rintro e w55 ⟨rfl, rfl⟩)
            | (go_at_call 13; ((with_reducible refine (AcksLowE H54.out.r2 lw FB.out.1).mono ?_)); rintro e w56 ⟨rfl, rfl⟩)
            | (go_at_call 12; ((with_reducible refine (AcksSetE H54.out QA.out lw s FA.out.1 FA.out.2).mono ?_)); rintro e w57 ⟨D57, d57, rfl, _, h⟩; have H57 := Aside0.mk (h.pick [3, 0, 1, 2]); clear h)
            | (go_at_call 12; ((with_reducible refine (AcksSetE H57.out QB.out lw s FB.out.1 FB.out.2).mono ?_)); rintro e w58 ⟨D58, d58, rfl, _, h⟩; have H58 := Aside0.mk (h); clear h)
            | (go_at_call 16; ((with_reducible refine (same_calls D57 d57 D58 d58 s SL.out (row_C H58.out.r2) (row_C H58.out)).mono ?_)); rintro e w59 ⟨rfl, hb⟩; have H59 := Aside0.mk ((H58.out.drawn hb).pick [4, 3, 1]); clear hb)
            | (go_at_call 13; ((with_reducible refine (AcksLowE H59.out lw FC.out.1).mono ?_)); rintro e w60 ⟨rfl, rfl⟩)
            | (go_at_call 13; ((with_reducible refine (AcksLowE H59.out.r1 lw FA.out.1).mono ?_)); rintro e w61 ⟨rfl, rfl⟩)
            | (go_at_call 12; ((with_reducible refine (AcksSetE H59.out QC.out lw s FC.out.1 FC.out.2).mono ?_)); rintro e w62 ⟨D62, d62, rfl, _, h⟩; have H62 := Aside0.mk (h.pick [2, 0, 1, 3]); clear h)
            | (go_at_call 12; ((with_reducible refine (AcksSetE H62.out QA.out lw s FA.out.1 FA.out.2).mono ?_)); rintro e w63 ⟨D63, d63, rfl, _, h⟩; have H63 := Aside0.mk (h); clear h)
            | (go_at_call 16; ((with_reducible refine (same_calls D62 d62 D63 d63 s SL.out (row_C H63.out.r2) (row_C H63.out)).mono ?_)); rintro e w64 ⟨rfl, hb⟩; have H64 := Aside0.mk ((H63.out.drawn hb).pick [1, 3, 4]); clear hb)
            | (go_at_call 13; ((with_reducible refine (AcksLowE H64.out lw FA.out.1).mono ?_)); rintro e w65 ⟨rfl, rfl⟩)
            | (go_at_call 12; ((with_reducible refine (AcksSetE H64.out QA.out lw s FA.out.1 FA.out.2).mono ?_)); rintro e w66 ⟨D66, d66, rfl, _, h⟩; have H66 := Aside0.mk (h.tail); clear h)
            | (go_at_call 13; ((with_reducible refine (AcksLowE H66.out lw FA.out.1).mono ?_)); rintro e w67 ⟨rfl, rfl⟩)
            | (go_at_call 12; ((with_reducible refine (AcksSetE H66.out QA.out lw s FA.out.1 FA.out.2).mono ?_)); rintro e w68 ⟨D68, d68, rfl, _, h⟩; have H68 := Aside0.mk (h.pick [2, 0, 1, 3]); clear h)
            | (go_at_call 15; ((with_reducible refine (AcksMergeN (n := s.length) H68.out rfl lw WS.out NC.out C EC2.out 0 (Int.sub_self _)).mono ?_)); rintro e w69 ⟨rfl, h⟩; have H69 := Aside0.mk h; clear h))
          go_ret
          exact ⟨rfl, H69.out.bel⟩
theorem AcksAlike_law (A : Option Addr) (c : Nat) (l : List S30) (w : World) (hr : Kd.C k30 w A l.length l) (hc : l.length ≤ c) (hq : l.length ≤ 9223372036854775807 ∧ ∀ x ∈ l, Q30 x) :
    Calls Try.prog 3 #[.slice A l.length c] w fun e w' => e = .returned (.bool true) ∧ Below w.heap.size w w' := by
  obtain ⟨r, hg, hgf⟩ := great_f l
  cases r with
  | true => exact AcksAlike_great A c l w hr hc hg
  | false => exact AcksAlike_small A c l w hr hc hg (hgf rfl).1 (fun x hx => ok_of_Q x (hq.2 x hx) ((hgf rfl).2 x hx))
end Go.Proofs.Ytbdimkpbkhcpfaa.PAcksPlays
