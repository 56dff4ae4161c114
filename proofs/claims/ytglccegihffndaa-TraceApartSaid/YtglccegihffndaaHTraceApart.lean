/- The law TraceApart, walked. -/
import Derived.Test.YtglccegihffndaaTrc9
namespace Go.Proofs.Ytglccegihffndaa.PTracePlays
open Go.RowKit Go.Proofs.YtglccegihffndaaW.PrintWords Go.Proofs.YtglccegihffndaaW.PrintLast Go.Proofs.YtglccegihffndaaW.PrintMore
open Go.Proofs.YtglccegihffndaaO
attribute [local go_sem] max2_int min2_int max_two min_two max_three min_three max_four min_four
set_option linter.unusedVariables false
set_option linter.unusedSimpArgs false
theorem snoc_fold {α β : Type} (f : β → α → β) (p : α → Bool) (b : β) (l : List α) (k : Nat) (x : α) (hx : l[k]? = some x) : ((l.take (k + 1)).filter p).foldl f b = if p x = true then f (((l.take k).filter p).foldl f b) x else ((l.take k).filter p).foldl f b := by
  rw [List.take_add_one, hx, Option.toList_some, List.filter_append, List.foldl_append]
  by_cases h : p x = true
  · rw [if_pos h, List.filter_cons, if_pos h]
    rfl
  · rw [if_neg h, List.filter_cons, if_neg h]
    rfl
theorem snoc_fold' {α β : Type} (f : β → α → β) (b : β) (l : List α) (k : Nat) (x : α) (hx : l[k]? = some x) : (l.take (k + 1)).foldl f b = f ((l.take k).foldl f b) x := by
  rw [List.take_add_one, hx, Option.toList_some, List.foldl_append]
  rfl
/-- A shard's own acts first, the others behind: each shard has what it has without that. -/
theorem apart_same (n : Nat) (part : Int) (l : List S33) (q : Int) : sAt ((l.filter (fun x => !decide (x.f1 = part))).foldl doA ((l.filter (fun x => decide (x.f1 = part))).foldl doA ((List.replicate n ([], []) : List (List TO × List TA))))) q = sAt (l.foldl doA ((List.replicate n ([], []) : List (List TO × List TA)))) q := by
  rw [sAt_fold, sAt_fold, sAt_fold, fold_len]
  by_cases hq : inB ((List.replicate n ([], []) : List (List TO × List TA))).length q = true
  · rw [if_pos hq, if_pos hq, if_pos hq, List.filter_filter, List.filter_filter, ← List.foldl_append]
    congr 1
    by_cases e : q = part
    · subst e
      have e1 : l.filter (fun x => decide (x.f1 = q) && !decide (x.f1 = q)) = [] := by
        rw [List.filter_eq_nil_iff]
        intro x _
        cases decide (x.f1 = q) <;> decide
      have e2 : (fun x : S33 => decide (x.f1 = q) && decide (x.f1 = q)) = fun x => decide (x.f1 = q) := funext fun x => Bool.and_self _
      rw [e1, e2, List.append_nil]
    · have e1 : l.filter (fun x => decide (x.f1 = q) && decide (x.f1 = part)) = [] := by
        rw [List.filter_eq_nil_iff]
        intro x _ h
        rw [Bool.and_eq_true, decide_eq_true_eq, decide_eq_true_eq] at h
        exact e (h.1.symm.trans h.2)
      have e2 : (fun x : S33 => decide (x.f1 = q) && !decide (x.f1 = part)) = fun x => decide (x.f1 = q) := funext fun x => by
        by_cases h : x.f1 = q
        · rw [decide_eq_true h, decide_eq_false (fun h2 => e (h.symm.trans h2))]
          rfl
        · rw [decide_eq_false h]
          rfl
      rw [e1, e2, List.nil_append]
  · rw [if_neg hq, if_neg hq, if_neg hq]
set_option maxHeartbeats 8000000 in
set_option maxRecDepth 100000 in
theorem TraceApart_great (m : Nat) (hm : m < 256) (A : Option Addr) (c : Nat) (l : List S33) (part : Int) (w : World) (hr : Kd.C k33 w A l.length l) (hc : l.length ≤ c) (hg : meterlaw24_Great.f (2 * min l.length 201 + 2) l = some true) :
    Calls Try.prog 4 #[.int .u8 m, .slice A l.length c, .int .i64 part] w fun e w' => e = .returned (.bool true) ∧ Below w.heap.size w w' := by
  have HR := Aside0.mk hr
  have HC := Aside0.mk hc
  have HG := Aside0.mk hg
  clear hr hc hg
  go_enter Try.func4, Try.ntmps4
  go_wp2_with (first
    | (go_at_call 8; ((with_reducible refine (awake_calls w).mono ?_)); rintro e w1 ⟨rfl, hb⟩; have H1 := Aside0.mk ((Own.nil w).below hb); clear hb)
    | (go_at_call 9; ((with_reducible refine (meterlaw24_Great.calls _ A c l true w1 (Kd.C_below HR.out H1.out.bel) HC.out HG.out).mono ?_)); rintro e w2 ⟨rfl, hb⟩; have H2 := Aside0.mk (H1.out.drawn hb); clear hb))
  go_ret
  exact ⟨rfl, H2.out.bel⟩
set_option maxHeartbeats 8000000 in
set_option maxRecDepth 100000 in
theorem TraceApart_small (m : Nat) (hm : m < 256) (A : Option Addr) (c : Nat) (l : List S33) (part : Int) (w : World) (hr : Kd.C k33 w A l.length l) (hc : l.length ≤ c) (hg : meterlaw24_Great.f (2 * min l.length 201 + 2) l = some false) (h5 : l.length ≤ 200 ∧ ∀ x ∈ l, x.f4.length ≤ 30) (n : Nat) (hn : n = m % 8 + 1) :
    Calls Try.prog 4 #[.int .u8 m, .slice A l.length c, .int .i64 part] w fun e w' => e = .returned (.bool true) ∧ Below w.heap.size w w' := by
  have HR := Aside0.mk hr
  have HC := Aside0.mk hc
  have HG := Aside0.mk hg
  clear hr hc hg
  go_enter Try.func4, Try.ntmps4
  have hM : l.length ≤ 9223372036854775807 := by omega
  have en : (1 + (m : Int) % 8) = (n : Int) := by omega
  have HN1 := Aside0.mk (show 1 ≤ n ∧ n ≤ 8 by omega)
  clear hn
  have HB := Aside0.mk (sAt_len n)
  have H5 := Aside0.mk h5
  go_wp2_with (first
    | (go_at_call 8; ((with_reducible refine (awake_calls w).mono ?_)); rintro e w1 ⟨rfl, hb⟩; have H1 := Aside0.mk ((Own.nil w).below hb); clear hb)
    | (go_at_call 9; ((with_reducible refine (meterlaw24_Great.calls _ A c l false w1 (Kd.C_below HR.out H1.out.bel) HC.out HG.out).mono ?_)); rintro e w2 ⟨rfl, hb⟩; have H2 := Aside0.mk (H1.out.drawn hb); clear hb)
    | (go_at_call 10; ((with_reducible refine (TrNewI H2.out _ n rfl HN1.out.1 HN1.out.2).mono ?_)); rintro e w3 ⟨ga, rfl, h⟩; have H3 := Aside0.mk h; clear h)
    | (go_at_call 10; ((with_reducible refine (TrNewI H3.out _ n rfl HN1.out.1 HN1.out.2).mono ?_)); rintro e w4 ⟨gb, rfl, h⟩; have H4 := Aside0.mk h.r1; clear h))
  go_loopw [12] (fun v12 wr => ∃ k : Nat, k ≤ l.length ∧ v12 = .int .i64 k ∧ Aside0 (Own w wr (Tr ga ((l.take k).foldl doA (List.replicate n ([], []) : List (List TO × List TA))) :: Tr gb (((l.take k).filter (fun x => decide (x.f1 = part))).foldl doA (List.replicate n ([], []) : List (List TO × List TA))) :: []))) (fun v12 _ => l.length - (RowKit.intOf v12).toNat)
  case atStart => exact ⟨0, Nat.zero_le _, rfl, H4⟩
  case round =>
    obtain ⟨k, hk, rfl, HO⟩ := hrel
    by_cases hlt : k < l.length
    · have hgk := List.getElem?_eq_getElem hlt
      generalize l[k] = x at hgk
      have HX30 := Aside0.mk (H5.out.2 x (List.mem_of_getElem? hgk))
      obtain ⟨ad, YA, Yc, rfl, c0, c1, c2, c3, c4, c5, c6, c7, c8, c9, c10, c11, c12, c13, hC⟩ := act_at HR.out HO.out.bel k x hgk
      have HGK := Aside0.mk hgk
      have HY := Aside0.mk (show Kd.C k44 w YA x.f4.length x.f4 from hC)
      have S1 := Lib.hid (snoc_fold' doA (List.replicate n ([], []) : List (List TO × List TA)) l k x hgk)
      have S2 := Lib.hid (snoc_fold doA (fun x => decide (x.f1 = part)) (List.replicate n ([], []) : List (List TO × List TA)) l k x hgk)
      have B1 := Aside0.mk (HB.out (l.take k) (fun y hy => H5.out.2 y (List.mem_of_mem_take hy)) (by rw [List.length_take]; omega) x.f1)
      have B2 := Aside0.mk (HB.out ((l.take k).filter (fun x => decide (x.f1 = part))) (fun y hy => H5.out.2 y (List.mem_of_mem_take (List.mem_filter.1 hy).1)) (by have := List.length_filter_le (fun x : S33 => decide (x.f1 = part)) (l.take k); rw [List.length_take] at this; omega) x.f1)
      have B1 := Aside0.mk (show (sAt ((l.take k).foldl doA (List.replicate n ([], []) : List (List TO × List TA))) x.f1).1.length + x.f4.length ≤ 1000000000 ∧ (sAt ((l.take k).foldl doA (List.replicate n ([], []) : List (List TO × List TA))) x.f1).2.length ≤ 1000000000 by have := B1.out; have := HX30.out; omega)
      have B2 := Aside0.mk (show (sAt (((l.take k).filter (fun x => decide (x.f1 = part))).foldl doA (List.replicate n ([], []) : List (List TO × List TA))) x.f1).1.length + x.f4.length ≤ 1000000000 ∧ (sAt (((l.take k).filter (fun x => decide (x.f1 = part))).foldl doA (List.replicate n ([], []) : List (List TO × List TA))) x.f1).2.length ≤ 1000000000 by have := B2.out; have := HX30.out; omega)
      have HX := Aside0.mk HO.out
      generalize (l.take k).foldl doA (List.replicate n ([], []) : List (List TO × List TA)) = sa at S1 B1 HX
      generalize ((l.take k).filter (fun x => decide (x.f1 = part))).foldl doA (List.replicate n ([], []) : List (List TO × List TA)) = sb at S2 B2 HX
      clear HO hgk hC
      by_cases hp : x.f1 = part
      · have HP := Aside0.mk hp
        have hpe : (x.f1 == part) = true := beq_iff_eq.mpr hp
        clear hp
        go_wp2_with (first
          | (go_at_call 15; ((with_reducible refine (put_calls HX.out x YA Yc B1.out (fun v h => Kd.C_below HY.out h.bel)).mono ?_)); rintro e w5 ⟨rfl, h⟩; have H5_ := Aside0.mk h.r1; have hcb := h.bel; clear h; obtain ⟨ad', YA', Yc', eA', e0, e1, e2, e3, e4, e5, e6, e7, e8, e9, e10, e11, e12, e13, eC⟩ := act_at HR.out hcb k x HGK.out; clear hcb; cases eA'; have HY' := Aside0.mk eC; clear eC c0 c1 c2 c3 c4 c5 c6 c7 c8 c9 c10 c11 c12 c13)
          | (go_at_call 15; ((with_reducible refine (put_calls H5_.out x YA' Yc' B2.out (fun v h => Kd.C_below HY'.out h.bel)).mono ?_)); rintro e w6 ⟨rfl, h⟩; have H6 := Aside0.mk h.r1; clear h))
        go_roundw
        case rel => exact ⟨k + 1, by omega, by first | rfl | go_num, ⟨by rw [S1.out, S2.out, if_pos (decide_eq_true HP.out)]; exact H6.out⟩⟩
        case measure => first | (simp [RowKit.intOf]; done) | (simp [RowKit.intOf]; omega)
      · have hpe : (x.f1 == part) = false := beq_eq_false_iff_ne.mpr hp
        go_wp2_with (first
          | (go_at_call 15; ((with_reducible refine (put_calls HX.out x YA Yc B1.out (fun v h => Kd.C_below HY.out h.bel)).mono ?_)); rintro e w5 ⟨rfl, h⟩; have H5_ := Aside0.mk h; have hcb := h.bel; clear h; obtain ⟨ad', YA', Yc', eA', e0, e1, e2, e3, e4, e5, e6, e7, e8, e9, e10, e11, e12, e13, eC⟩ := act_at HR.out hcb k x HGK.out; clear hcb; cases eA'; clear eC c0 c1 c2 c3 c4 c5 c6 c7 c8 c9 c10 c11 c12 c13))
        go_roundw
        case rel => exact ⟨k + 1, by omega, by first | rfl | go_num, ⟨by rw [S1.out, S2.out, if_neg (by simpa using hp)]; exact H5_.out⟩⟩
        case measure => first | (simp [RowKit.intOf]; done) | (simp [RowKit.intOf]; omega)
    · have hk' : k = l.length := by omega
      subst hk'
      rw [List.take_length] at HO
      have H7 := HO
      clear HO hk hlt
      obtain ⟨sa, hsa⟩ : ∃ s, l.foldl doA (List.replicate n ([], []) : List (List TO × List TA)) = s := ⟨_, rfl⟩
      obtain ⟨sp, hsp⟩ : ∃ s, (l.filter (fun x => decide (x.f1 = part))).foldl doA (List.replicate n ([], []) : List (List TO × List TA)) = s := ⟨_, rfl⟩
      rw [hsa, hsp] at H7
      have HSA := Lib.hid hsa
      have HSP := Lib.hid hsp
      clear hsa hsp
      go_wp2
      go_loopw [13] (fun v13 wr => ∃ k : Nat, k ≤ l.length ∧ v13 = .int .i64 k ∧ Aside0 (Own w wr (Tr ga sa :: Tr gb (((l.take k).filter (fun x => !decide (x.f1 = part))).foldl doA sp) :: []))) (fun v13 _ => l.length - (RowKit.intOf v13).toNat)
      case atStart => exact ⟨0, Nat.zero_le _, rfl, H7⟩
      case round =>
        obtain ⟨k, hk, rfl, HO⟩ := hrel
        by_cases hlt : k < l.length
        · have hgk := List.getElem?_eq_getElem hlt
          generalize l[k] = x at hgk
          have HX30 := Aside0.mk (H5.out.2 x (List.mem_of_getElem? hgk))
          obtain ⟨ad, YA, Yc, rfl, c0, c1, c2, c3, c4, c5, c6, c7, c8, c9, c10, c11, c12, c13, hC⟩ := act_at HR.out HO.out.bel k x hgk
          have HY := Aside0.mk (show Kd.C k44 w YA x.f4.length x.f4 from hC)
          have S2 := Lib.hid (snoc_fold doA (fun x => !decide (x.f1 = part)) sp l k x hgk)
          have B2 := Aside0.mk (HB.out (l.filter (fun x => decide (x.f1 = part)) ++ (l.take k).filter (fun x => !decide (x.f1 = part))) (fun y hy => H5.out.2 y ((List.mem_append.1 hy).elim (fun h => (List.mem_filter.1 h).1) fun h => List.mem_of_mem_take (List.mem_filter.1 h).1)) (by have h1 := List.length_filter_le (fun x : S33 => decide (x.f1 = part)) l; have h2 := List.length_filter_le (fun x : S33 => !decide (x.f1 = part)) (l.take k); have := H5.out.1; rw [List.length_take] at h2; rw [List.length_append]; omega) x.f1)
          have B2 := Aside0.mk (show (sAt (((l.take k).filter (fun x => !decide (x.f1 = part))).foldl doA sp) x.f1).1.length + x.f4.length ≤ 1000000000 ∧ (sAt (((l.take k).filter (fun x => !decide (x.f1 = part))).foldl doA sp) x.f1).2.length ≤ 1000000000 by have := B2.out; rw [List.foldl_append, HSP.out] at this; have := HX30.out; omega)
          have HX := Aside0.mk HO.out
          generalize ((l.take k).filter (fun x => !decide (x.f1 = part))).foldl doA sp = sb at S2 B2 HX
          clear HO hgk hC
          by_cases hp : x.f1 = part
          · have HP := Aside0.mk hp
            have hpe : (x.f1 == part) = true := beq_iff_eq.mpr hp
            clear hp
            go_wp2
            go_roundw
            case rel => exact ⟨k + 1, by omega, by first | rfl | go_num, ⟨by rw [S2.out, if_neg (by rw [decide_eq_true HP.out]; decide)]; exact HX.out⟩⟩
            case measure => first | (simp [RowKit.intOf]; done) | (simp [RowKit.intOf]; omega)
          · have HP := Aside0.mk hp
            have hpe : (x.f1 == part) = false := beq_eq_false_iff_ne.mpr hp
            clear hp
            go_wp2_with (first
              | (go_at_call 15; ((with_reducible refine (put_calls HX.out.r1 x YA Yc B2.out (fun v h => Kd.C_below HY.out h.bel)).mono ?_)); rintro e w6 ⟨rfl, h⟩; have H6 := Aside0.mk h.r1; clear h))
            go_roundw
            case rel => exact ⟨k + 1, by omega, by first | rfl | go_num, ⟨by rw [S2.out, if_pos (by rw [decide_eq_false HP.out]; decide)]; exact H6.out⟩⟩
            case measure => first | (simp [RowKit.intOf]; done) | (simp [RowKit.intOf]; omega)
        · have hk' : k = l.length := by omega
          subst hk'
          rw [List.take_length] at HO
          have H8 := HO
          clear HO hk hlt H7
          obtain ⟨sb, hsb⟩ : ∃ s, (l.filter (fun x => !decide (x.f1 = part))).foldl doA sp = s := ⟨_, rfl⟩
          rw [hsb] at H8
          have HQ := Aside0.mk (show ∀ q, sAt sb q = sAt sa q by intro q; rw [← hsb, ← HSP.out, ← HSA.out]; exact apart_same n part l q)
          have HZ := Aside0.mk (show ∀ q, (sAt sa q).1.length ≤ 1000000000 ∧ (sAt sa q).2.length ≤ 1000000000 by intro q; have := HB.out l H5.out.2 (by have := H5.out.1; omega) q; rw [HSA.out] at this; omega)
          clear hsb
          go_wp2
          go_loopw [14] (fun v14 wr => ∃ k : Int, -1 ≤ k ∧ k ≤ n + 1 ∧ v14 = .int .i64 k ∧ Aside0 (Own w wr (Tr ga sa :: Tr gb sb :: []))) (fun v14 _ => ((n : Int) + 1 - RowKit.intOf v14).toNat)
          case atStart => exact ⟨-1, by omega, by omega, rfl, H8⟩
          case round =>
            obtain ⟨k, hk1, hk2, rfl, HO⟩ := hrel
            by_cases hlt : k ≤ (n : Int)
            · have hkd : decide (k ≤ (n : Int)) = true := decide_eq_true hlt
              obtain ⟨lx, hlx⟩ : ∃ s, (sAt sa k).1 = s := ⟨_, rfl⟩
              obtain ⟨ly, hly⟩ : ∃ s, (sAt sa k).2 = s := ⟨_, rfl⟩
              have LX := Aside0.mk hlx
              have LY := Aside0.mk hly
              have LX2 := Aside0.mk ((congrArg Prod.fst (HQ.out k)).trans hlx)
              have LY2 := Aside0.mk ((congrArg Prod.snd (HQ.out k)).trans hly)
              have NX := Aside0.mk (show lx.length ≤ 1000000000 by rw [← hlx]; exact (HZ.out k).1)
              have NY := Aside0.mk (show ly.length ≤ 1000000000 by rw [← hly]; exact (HZ.out k).2)
              have nx := NX.out
              have ny := NY.out
              clear hlx hly
              have HN2 := Aside0.mk (show n ≤ 8 from HN1.out.2)
              have hn8 := HN2.out
              go_wp2_with (first
                | (go_at_call 11; ((with_reducible refine (TrOutsE HO.out k lx lx.length LX.out rfl NX.out).mono ?_)); rintro e w9 ⟨A1, d1, rfl, h⟩; have H9 := Aside0.mk h; clear h)
                | (go_at_call 11; ((with_reducible refine (TrOutsE H9.out.r2 k lx lx.length LX2.out rfl NX.out).mono ?_)); rintro e w10 ⟨A2, d2, rfl, h⟩; have H10 := Aside0.mk h; clear h)
                | (go_at_call 12; ((with_reducible refine (TrItemsE H10.out.r3 k ly ly.length LY.out rfl NY.out).mono ?_)); rintro e w11 ⟨A3, d3, rfl, h⟩; have H11 := Aside0.mk h; clear h)
                | (go_at_call 12; ((with_reducible refine (TrItemsE H11.out.r3 k ly ly.length LY2.out rfl NY.out).mono ?_)); rintro e w12 ⟨A4, d4, rfl, h⟩; have H12 := Aside0.mk h; clear h))
              go_loopw [19] (fun v19 ws => ∃ i : Nat, i ≤ lx.length ∧ v19 = .int .i64 i ∧ Aside0 (Own w ws [Row k48 48 (.slice A4 ly.length d4) ly, Tr gb sb, Row k48 48 (.slice A3 ly.length d3) ly, Tr ga sa, Row k46 46 (.slice A2 lx.length d2) lx, Row k46 46 (.slice A1 lx.length d1) lx])) (fun v19 _ => lx.length - (RowKit.intOf v19).toNat)
              case atStart => exact ⟨0, Nat.zero_le _, rfl, H12⟩
              case round =>
                obtain ⟨i, hi, rfl, HI⟩ := hrel
                by_cases hlt2 : i < lx.length
                · have hgi := List.getElem?_eq_getElem hlt2
                  generalize lx[i] = y at hgi
                  have HGI := Aside0.mk hgi
                  have hpos : 0 < lx.length := by omega
                  obtain ⟨b1, g1, e1⟩ := row_form' HI.out.r5 hpos
                  cases e1
                  obtain ⟨b2, g2, e2⟩ := row_form' HI.out.r4 hpos
                  cases e2
                  obtain ⟨⟨x0, x1, ⟨x2, x3, x4, x5, ⟨x6, x7, x8, x9⟩⟩⟩, x10, x11⟩ := y
                  have hf1 := add_at b1
                  have hf2 := add_at b2
                  have hne := neqT x0 x1 x2 x3 x4 x5 x6 x7 x8 x9 x10 x11
                  clear hgi hpos
                  have HW := Aside0.mk HI.out.drew
                  go_wp2
                  refine start_ (n := 9) (S := fun w' => Own w w' [Row k48 48 (.slice A4 ly.length d4) ly, Tr gb sb, Row k48 48 (.slice A3 ly.length d3) ly, Tr ga sa, Row k46 46 (.slice (some ⟨b2, 0, none⟩) lx.length d2) lx, Row k46 46 (.slice (some ⟨b1, 0, none⟩) lx.length d1) lx]) (ds := []) #[false, false, false, false, false, false, false, false, false] (by kernel_rfl) rfl rfl HW.out (fun hHeld => ?_)
                  have HW2 := Aside0.mk hHeld
                  clear HW
                  refine pure_ (i := 0) (N := some 120) (v := ?_) (a' := ?_) #[true, false, false, false, false, false, false, false, false] rfl rfl (by kernel_rfl) (fun _ _ _ h => h) (Or.inl ⟨by rfl, ?_⟩) ?_ ?_
                  rotate_left
                  · intro w'
                    go_simp
                    with_reducible rfl
                  rotate_left
                  · simp only [Act.put, List.setIfInBounds_toArray, List.set_cons_zero, List.set_cons_succ, i64_w, i32_w]
                    rfl
                  refine pure_ (i := 1) (N := some 121) (v := ?_) (a' := ?_) #[true, true, false, false, false, false, false, false, false] rfl rfl (by kernel_rfl) (fun _ _ _ h => h) (Or.inl ⟨by rfl, ?_⟩) ?_ ?_
                  rotate_left
                  · intro w'
                    go_simp
                    with_reducible rfl
                  rotate_left
                  · simp only [Act.put, List.setIfInBounds_toArray, List.set_cons_zero, List.set_cons_succ, i64_w, i32_w]
                    rfl
                  refine pure_ (i := 2) (N := some 122) (v := ?_) (a' := ?_) #[true, true, true, false, false, false, false, false, false] rfl rfl (by kernel_rfl) (fun _ _ _ h => h) (Or.inl ⟨by rfl, ?_⟩) ?_ ?_
                  rotate_left
                  · intro w'
                    go_simp
                    with_reducible rfl
                  rotate_left
                  · simp only [Act.put, List.setIfInBounds_toArray, List.set_cons_zero, List.set_cons_succ, i64_w, i32_w]
                    rfl
                  refine take_ (i := 3) (N := some 123) (v := ?_) (a' := ?_) #[true, true, true, true, false, false, false, false, false] rfl rfl (by kernel_rfl) (fun _ _ _ h => h) (Or.inl ⟨by rfl, ?_⟩) hHeld ?_ ?_
                  rotate_left
                  · rintro w' s0
                    have p0 := told_cell s0.r5 i _ HGI.out 0 _ rfl; have p1 := told_cell s0.r5 i _ HGI.out 1 _ rfl; have p2 := told_cell s0.r5 i _ HGI.out 2 _ rfl; have p3 := told_cell s0.r5 i _ HGI.out 3 _ rfl; have p4 := told_cell s0.r5 i _ HGI.out 4 _ rfl; have p5 := told_cell s0.r5 i _ HGI.out 5 _ rfl; have p6 := told_cell s0.r5 i _ HGI.out 6 _ rfl; have p7 := told_cell s0.r5 i _ HGI.out 7 _ rfl; have p8 := told_cell s0.r5 i _ HGI.out 8 _ rfl; have p9 := told_cell s0.r5 i _ HGI.out 9 _ rfl; have p10 := told_cell s0.r5 i _ HGI.out 10 _ rfl; have p11 := told_cell s0.r5 i _ HGI.out 11 _ rfl; dsimp only at p0 p1 p2 p3 p4 p5 p6 p7 p8 p9 p10 p11; rw [Nat.add_zero] at p0
                    go_simp
                    with_reducible rfl
                  rotate_left
                  · simp only [Act.put, List.setIfInBounds_toArray, List.set_cons_zero, List.set_cons_succ, i64_w, i32_w]
                    rfl
                  refine pure_ (i := 4) (N := some 124) (v := ?_) (a' := ?_) #[true, true, true, true, true, false, false, false, false] rfl rfl (by kernel_rfl) (fun _ _ _ h => h) (Or.inl ⟨by rfl, ?_⟩) ?_ ?_
                  rotate_left
                  · intro w'
                    go_simp
                    with_reducible rfl
                  rotate_left
                  · simp only [Act.put, List.setIfInBounds_toArray, List.set_cons_zero, List.set_cons_succ, i64_w, i32_w]
                    rfl
                  refine pure_ (i := 5) (N := some 125) (v := ?_) (a' := ?_) #[true, true, true, true, true, true, false, false, false] rfl rfl (by kernel_rfl) (fun _ _ _ h => h) (Or.inl ⟨by rfl, ?_⟩) ?_ ?_
                  rotate_left
                  · intro w'
                    go_simp
                    with_reducible rfl
                  rotate_left
                  · simp only [Act.put, List.setIfInBounds_toArray, List.set_cons_zero, List.set_cons_succ, i64_w, i32_w]
                    rfl
                  refine pure_ (i := 6) (N := some 126) (v := ?_) (a' := ?_) #[true, true, true, true, true, true, true, false, false] rfl rfl (by kernel_rfl) (fun _ _ _ h => h) (Or.inl ⟨by rfl, ?_⟩) ?_ ?_
                  rotate_left
                  · intro w'
                    go_simp
                    with_reducible rfl
                  rotate_left
                  · simp only [Act.put, List.setIfInBounds_toArray, List.set_cons_zero, List.set_cons_succ, i64_w, i32_w]
                    rfl
                  refine take_ (i := 7) (N := some 127) (v := ?_) (a' := ?_) #[true, true, true, true, true, true, true, true, false] rfl rfl (by kernel_rfl) (fun _ _ _ h => h) (Or.inl ⟨by rfl, ?_⟩) hHeld ?_ ?_
                  rotate_left
                  · rintro w' s0
                    have p0 := told_cell s0.r4 i _ HGI.out 0 _ rfl; have p1 := told_cell s0.r4 i _ HGI.out 1 _ rfl; have p2 := told_cell s0.r4 i _ HGI.out 2 _ rfl; have p3 := told_cell s0.r4 i _ HGI.out 3 _ rfl; have p4 := told_cell s0.r4 i _ HGI.out 4 _ rfl; have p5 := told_cell s0.r4 i _ HGI.out 5 _ rfl; have p6 := told_cell s0.r4 i _ HGI.out 6 _ rfl; have p7 := told_cell s0.r4 i _ HGI.out 7 _ rfl; have p8 := told_cell s0.r4 i _ HGI.out 8 _ rfl; have p9 := told_cell s0.r4 i _ HGI.out 9 _ rfl; have p10 := told_cell s0.r4 i _ HGI.out 10 _ rfl; have p11 := told_cell s0.r4 i _ HGI.out 11 _ rfl; dsimp only at p0 p1 p2 p3 p4 p5 p6 p7 p8 p9 p10 p11; rw [Nat.add_zero] at p0
                    go_simp
                    with_reducible rfl
                  rotate_left
                  · simp only [Act.put, List.setIfInBounds_toArray, List.set_cons_zero, List.set_cons_succ, i64_w, i32_w]
                    rfl
                  refine pure_ (i := 8) (N := some 128) (v := ?_) (a' := ?_) #[true, true, true, true, true, true, true, true, true] rfl rfl (by kernel_rfl) (fun _ _ _ h => h) (Or.inl ⟨by rfl, ?_⟩) ?_ ?_
                  rotate_left
                  · intro w'
                    go_simp
                    with_reducible rfl
                  rotate_left
                  · simp only [Act.put, List.setIfInBounds_toArray, List.set_cons_zero, List.set_cons_succ, i64_w, i32_w]
                    rfl
                  refine done_ (by kernel_rfl) ?_
                  go_wp2
                  go_roundw
                  case rel => exact ⟨i + 1, by omega, by first | rfl | go_num, HW2⟩
                  case measure => first | (simp [RowKit.intOf]; done) | (simp [RowKit.intOf]; omega)
                · have hi2 : i = lx.length := by omega
                  subst hi2
                  have HI2 := HI
                  clear HI
                  go_wp2
                  go_loopw [20] (fun v20 ws => ∃ i : Nat, i ≤ ly.length ∧ v20 = .int .i64 i ∧ Aside0 (Own w ws [Row k48 48 (.slice A4 ly.length d4) ly, Tr gb sb, Row k48 48 (.slice A3 ly.length d3) ly, Tr ga sa, Row k46 46 (.slice A2 lx.length d2) lx, Row k46 46 (.slice A1 lx.length d1) lx])) (fun v20 _ => ly.length - (RowKit.intOf v20).toNat)
                  case atStart => exact ⟨0, Nat.zero_le _, rfl, HI2⟩
                  case round =>
                    obtain ⟨i, hi, rfl, HI⟩ := hrel
                    by_cases hlt2 : i < ly.length
                    · have hgi := List.getElem?_eq_getElem hlt2
                      generalize ly[i] = y at hgi
                      have HGI := Aside0.mk hgi
                      have hpos : 0 < ly.length := by omega
                      obtain ⟨b1, g1, e1⟩ := row_form' HI.out.r2 hpos
                      cases e1
                      obtain ⟨b2, g2, e2⟩ := row_form' HI.out hpos
                      cases e2
                      obtain ⟨⟨x0, x1, x2, x3, x4, x5, x6, x7⟩, x8⟩ := y
                      have hf1 := add_at b1
                      have hf2 := add_at b2
                      have hne := neqA x0 x1 x2 x3 x4 x5 x6 x7 x8
                      clear hgi hpos
                      have HW := Aside0.mk HI.out.drew
                      go_wp2
                      refine start_ (n := 9) (S := fun w' => Own w w' [Row k48 48 (.slice (some ⟨b2, 0, none⟩) ly.length d4) ly, Tr gb sb, Row k48 48 (.slice (some ⟨b1, 0, none⟩) ly.length d3) ly, Tr ga sa, Row k46 46 (.slice A2 lx.length d2) lx, Row k46 46 (.slice A1 lx.length d1) lx]) (ds := []) #[false, false, false, false, false, false, false, false, false] (by kernel_rfl) rfl rfl HW.out (fun hHeld => ?_)
                      have HW2 := Aside0.mk hHeld
                      clear HW
                      refine pure_ (i := 0) (N := some 135) (v := ?_) (a' := ?_) #[true, false, false, false, false, false, false, false, false] rfl rfl (by kernel_rfl) (fun _ _ _ h => h) (Or.inl ⟨by rfl, ?_⟩) ?_ ?_
                      rotate_left
                      · intro w'
                        go_simp
                        with_reducible rfl
                      rotate_left
                      · simp only [Act.put, List.setIfInBounds_toArray, List.set_cons_zero, List.set_cons_succ, i64_w, i32_w]
                        rfl
                      refine pure_ (i := 1) (N := some 136) (v := ?_) (a' := ?_) #[true, true, false, false, false, false, false, false, false] rfl rfl (by kernel_rfl) (fun _ _ _ h => h) (Or.inl ⟨by rfl, ?_⟩) ?_ ?_
                      rotate_left
                      · intro w'
                        go_simp
                        with_reducible rfl
                      rotate_left
                      · simp only [Act.put, List.setIfInBounds_toArray, List.set_cons_zero, List.set_cons_succ, i64_w, i32_w]
                        rfl
                      refine pure_ (i := 2) (N := some 137) (v := ?_) (a' := ?_) #[true, true, true, false, false, false, false, false, false] rfl rfl (by kernel_rfl) (fun _ _ _ h => h) (Or.inl ⟨by rfl, ?_⟩) ?_ ?_
                      rotate_left
                      · intro w'
                        go_simp
                        with_reducible rfl
                      rotate_left
                      · simp only [Act.put, List.setIfInBounds_toArray, List.set_cons_zero, List.set_cons_succ, i64_w, i32_w]
                        rfl
                      refine take_ (i := 3) (N := some 138) (v := ?_) (a' := ?_) #[true, true, true, true, false, false, false, false, false] rfl rfl (by kernel_rfl) (fun _ _ _ h => h) (Or.inl ⟨by rfl, ?_⟩) hHeld ?_ ?_
                      rotate_left
                      · rintro w' s0
                        have p0 := app_cell s0.r2 i _ HGI.out 0 _ rfl; have p1 := app_cell s0.r2 i _ HGI.out 1 _ rfl; have p2 := app_cell s0.r2 i _ HGI.out 2 _ rfl; have p3 := app_cell s0.r2 i _ HGI.out 3 _ rfl; have p4 := app_cell s0.r2 i _ HGI.out 4 _ rfl; have p5 := app_cell s0.r2 i _ HGI.out 5 _ rfl; have p6 := app_cell s0.r2 i _ HGI.out 6 _ rfl; have p7 := app_cell s0.r2 i _ HGI.out 7 _ rfl; have p8 := app_cell s0.r2 i _ HGI.out 8 _ rfl; dsimp only at p0 p1 p2 p3 p4 p5 p6 p7 p8; rw [Nat.add_zero] at p0
                        go_simp
                        with_reducible rfl
                      rotate_left
                      · simp only [Act.put, List.setIfInBounds_toArray, List.set_cons_zero, List.set_cons_succ, i64_w, i32_w]
                        rfl
                      refine pure_ (i := 4) (N := some 139) (v := ?_) (a' := ?_) #[true, true, true, true, true, false, false, false, false] rfl rfl (by kernel_rfl) (fun _ _ _ h => h) (Or.inl ⟨by rfl, ?_⟩) ?_ ?_
                      rotate_left
                      · intro w'
                        go_simp
                        with_reducible rfl
                      rotate_left
                      · simp only [Act.put, List.setIfInBounds_toArray, List.set_cons_zero, List.set_cons_succ, i64_w, i32_w]
                        rfl
                      refine pure_ (i := 5) (N := some 140) (v := ?_) (a' := ?_) #[true, true, true, true, true, true, false, false, false] rfl rfl (by kernel_rfl) (fun _ _ _ h => h) (Or.inl ⟨by rfl, ?_⟩) ?_ ?_
                      rotate_left
                      · intro w'
                        go_simp
                        with_reducible rfl
                      rotate_left
                      · simp only [Act.put, List.setIfInBounds_toArray, List.set_cons_zero, List.set_cons_succ, i64_w, i32_w]
                        rfl
                      refine pure_ (i := 6) (N := some 141) (v := ?_) (a' := ?_) #[true, true, true, true, true, true, true, false, false] rfl rfl (by kernel_rfl) (fun _ _ _ h => h) (Or.inl ⟨by rfl, ?_⟩) ?_ ?_
                      rotate_left
                      · intro w'
                        go_simp
                        with_reducible rfl
                      rotate_left
                      · simp only [Act.put, List.setIfInBounds_toArray, List.set_cons_zero, List.set_cons_succ, i64_w, i32_w]
                        rfl
                      refine take_ (i := 7) (N := some 142) (v := ?_) (a' := ?_) #[true, true, true, true, true, true, true, true, false] rfl rfl (by kernel_rfl) (fun _ _ _ h => h) (Or.inl ⟨by rfl, ?_⟩) hHeld ?_ ?_
                      rotate_left
                      · rintro w' s0
                        have p0 := app_cell s0 i _ HGI.out 0 _ rfl; have p1 := app_cell s0 i _ HGI.out 1 _ rfl; have p2 := app_cell s0 i _ HGI.out 2 _ rfl; have p3 := app_cell s0 i _ HGI.out 3 _ rfl; have p4 := app_cell s0 i _ HGI.out 4 _ rfl; have p5 := app_cell s0 i _ HGI.out 5 _ rfl; have p6 := app_cell s0 i _ HGI.out 6 _ rfl; have p7 := app_cell s0 i _ HGI.out 7 _ rfl; have p8 := app_cell s0 i _ HGI.out 8 _ rfl; dsimp only at p0 p1 p2 p3 p4 p5 p6 p7 p8; rw [Nat.add_zero] at p0
                        go_simp
                        with_reducible rfl
                      rotate_left
                      · simp only [Act.put, List.setIfInBounds_toArray, List.set_cons_zero, List.set_cons_succ, i64_w, i32_w]
                        rfl
                      refine pure_ (i := 8) (N := some 143) (v := ?_) (a' := ?_) #[true, true, true, true, true, true, true, true, true] rfl rfl (by kernel_rfl) (fun _ _ _ h => h) (Or.inl ⟨by rfl, ?_⟩) ?_ ?_
                      rotate_left
                      · intro w'
                        go_simp
                        with_reducible rfl
                      rotate_left
                      · simp only [Act.put, List.setIfInBounds_toArray, List.set_cons_zero, List.set_cons_succ, i64_w, i32_w]
                        rfl
                      refine done_ (by kernel_rfl) ?_
                      go_wp2
                      go_roundw
                      case rel => exact ⟨i + 1, by omega, by first | rfl | go_num, HW2⟩
                      case measure => first | (simp [RowKit.intOf]; done) | (simp [RowKit.intOf]; omega)
                    · have hi2 : i = ly.length := by omega
                      subst hi2
                      go_wp2
                      go_roundw
                      case rel => exact ⟨k + 1, by omega, by omega, by first | rfl | go_num, Aside0.mk (HI.out.pick [3, 1])⟩
                      case measure => first | (simp [RowKit.intOf]; done) | (simp [RowKit.intOf]; omega)
            · have hkd : decide (k ≤ (n : Int)) = false := decide_eq_false hlt
              go_wp2
              go_ret
              exact ⟨rfl, HO.out.bel⟩
theorem TraceApart_law (m : Int) (A : Option Addr) (c : Nat) (l : List S33) (part : Int) (w : World) (hm : (Lit.int .u8 m).wf = true) (hr : Kd.C k33 w A l.length l) (hc : l.length ≤ c) (hq : l.length ≤ 9223372036854775807 ∧ ∀ x ∈ l, Q33 x) (hwp : (Lit.int .i64 part).wf = true) :
    Calls Try.prog 4 #[.int .u8 m, .slice A l.length c, .int .i64 part] w fun e w' => e = .returned (.bool true) ∧ Below w.heap.size w w' := by
  have hm2 : 0 ≤ m ∧ m ≤ 255 := by simpa [Lit.wf, IntKind.min, IntKind.max, IntKind.signed, IntKind.bits] using hm
  obtain ⟨k, rfl⟩ := Int.eq_ofNat_of_zero_le hm2.1
  obtain ⟨r, hg, h5⟩ := great_f l
  cases r with
  | true => exact TraceApart_great k (by omega) A c l part w hr hc hg
  | false => exact TraceApart_small k (by omega) A c l part w hr hc hg (h5 rfl) _ rfl
end Go.Proofs.Ytglccegihffndaa.PTracePlays
