/- The law NetCounts, walked. -/
import Derived.Test.YtdnpodpmicllgaaNet12
import Derived.Deep.MidRow
import Derived.Deep.QuietTactic
import Derived.Deep.Cut
import Derived.Deep.CutBlock
namespace Go.Proofs.Ytdnpodpmicllgaa.PNetPlays
open Go.RowKit Go.Proofs.YtdnpodpmicllgaaW.PrintWords Go.Proofs.YtdnpodpmicllgaaW.PrintLast Go.Proofs.YtdnpodpmicllgaaW.PrintMore
open Go.Proofs.YtdnpodpmicllgaaO Go.Proofs.YtdnpodpmicllgaaC
attribute [local go_sem] max2_int min2_int max_two min_two max_three min_three max_four min_four
set_option linter.unusedVariables false
set_option linter.unusedSimpArgs false
theorem post_cases (way : List Pk) (p : Pk) : postR way p = (way ++ [p], 0) ∨ ∃ r, r ≠ 0 ∧ postR way p = (way, r) := by
  unfold postR putR
  split
  · split
    · exact .inl rfl
    · exact .inr ⟨6, by decide, rfl⟩
  · exact .inr ⟨1, by decide, rfl⟩
theorem dup_in (way : List Pk) (j : Nat) (p : Pk) (h : way[j]? = some p) : dupR way j = (way ++ [p], 0) ∨ ∃ r, r ≠ 0 ∧ dupR way j = (way, r) := by
  unfold dupR putR
  rw [if_pos (by omega), Int.toNat_natCast, h]
  dsimp only
  split
  · exact .inl rfl
  · exact .inr ⟨6, by decide, rfl⟩
theorem dup_out (way : List Pk) (i : Int) (h : ¬ (0 ≤ i ∧ i < way.length)) : dupR way i = (way, 4) := by
  unfold dupR
  split
  · rw [List.getElem?_eq_none (by omega)]
  · rfl
theorem take_in (way : List Pk) (j : Nat) (p : Pk) (h : way[j]? = some p) : takeR way j = (way.eraseIdx j, p, 0) := by
  unfold takeR
  rw [if_pos (by omega), Int.toNat_natCast, h]
theorem take_out (way : List Pk) (i : Int) (h : ¬ (0 ≤ i ∧ i < way.length)) : takeR way i = (way, ⟨0, 0, ⟨#[]⟩⟩, 4) := by
  unfold takeR
  split
  · rw [List.getElem?_eq_none (by omega)]
    first | done | rfl
  · rfl
theorem erase_perm (l : List Pk) (i : Nat) (p : Pk) (h : l[i]? = some p) : (p :: l.eraseIdx i).Perm l := by
  have h2 := ChangeMaps.set_perm l i (List.getElem?_eq_some_iff.1 h).1 p
  rw [WideElems.set_self l i p h] at h2
  exact h2.symm
theorem perm_both {a b : List Pk} (h : a.Perm b) (i j : Nat) (p : Pk) (hi : a[i]? = some p) (hj : b[j]? = some p) : (a.eraseIdx i).Perm (b.eraseIdx j) :=
  ((erase_perm a i p hi).trans (h.trans (erase_perm b j p hj).symm)).cons_inv
set_option maxHeartbeats 8000000 in
set_option maxRecDepth 100000 in
theorem NetCounts_great (A : Option Addr) (c : Nat) (l : List ACT) (w : World) (hr : Kd.C k40 w A l.length l) (hc : l.length ≤ c) (k : Nat) (hg : meterlaw05_Great.f k l = some true) :
    Calls Try.prog 5 #[.slice A l.length c] w fun e w' => e = .returned (.bool true) ∧ Below w.heap.size w w' := by
  have HR := Aside0.mk hr
  have HC := Aside0.mk hc
  have HG := Aside0.mk hg
  clear hr hc hg
  go_enter Try.func5, Try.ntmps5
  go_wp2_with (first
    | (go_at_call 14; ((with_reducible refine (awake_calls w).mono ?_)); rintro e w1 ⟨rfl, hb⟩; have H1 := Aside0.mk ((Own.nil w).below hb); clear hb)
    | (go_at_call 15; ((with_reducible refine (meterlaw05_Great.calls _ A c l true w1 (Kd.C_below HR.out H1.out.bel) HC.out HG.out).mono ?_)); rintro e w2 ⟨rfl, hb⟩; have H2 := Aside0.mk (H1.out.below hb); clear hb))
  go_ret
  exact ⟨rfl, H2.out.bel⟩
set_option maxHeartbeats 8000000 in
set_option maxRecDepth 100000 in
theorem NetCounts_small (A : Option Addr) (c : Nat) (l : List ACT) (w : World) (hr : Kd.C k40 w A l.length l) (hc : l.length ≤ c) (k : Nat) (hg : meterlaw05_Great.f k l = some false) (h300 : l.length ≤ 300) (hq : ∀ x ∈ l, Q40 x) :
    Calls Try.prog 5 #[.slice A l.length c] w fun e w' => e = .returned (.bool true) ∧ Below w.heap.size w w' := by
  have HR := Aside0.mk hr
  have HC := Aside0.mk hc
  have HG := Aside0.mk hg
  have HQ := Aside0.mk hq
  have hM : l.length ≤ 9223372036854775807 := by omega
  clear hr hc hg hq
  go_enter Try.func5, Try.ntmps5
  go_wp2_with (first
    | (go_at_call 14; ((with_reducible refine (awake_calls w).mono ?_)); rintro e w1 ⟨rfl, hb⟩; have H1 := Aside0.mk ((Own.nil w).below hb); clear hb)
    | (go_at_call 15; ((with_reducible refine (meterlaw05_Great.calls _ A c l false w1 (Kd.C_below HR.out H1.out.bel) HC.out HG.out).mono ?_)); rintro e w2 ⟨rfl, hb⟩; have H2 := Aside0.mk (H1.out.below hb); clear hb)
    | (go_at_call 8; ((with_reducible refine (NetNew H2.out).mono ?_)); rintro e w3 ⟨gx, rfl, h⟩; have H3 := Aside0.mk (h.row_nil k25 25); clear h))
  clear HG k
  go_loopw [4, 5] (fun v4 v5 wr => ∃ (k n c4 : Nat) (A4 : Option Addr) (way left : List Pk), k ≤ l.length ∧ v5 = .int .i64 k ∧ v4 = .slice A4 n c4 ∧ Aside0 (left.Perm way ∧ left.length = n ∧ way.length = n ∧ n ≤ k) ∧ Aside0 (Own w wr [Row k25 25 (.slice A4 n c4) left, NetA gx way k])) (fun _ v5 _ => l.length - (RowKit.intOf v5).toNat)
  case atStart => exact ⟨0, 0, 0, none, [], [], Nat.zero_le _, rfl, rfl, ⟨List.Perm.nil, rfl, rfl, Nat.le_refl _⟩, H3⟩
  case round =>
    obtain ⟨k, n, c4, A4, way, left, hk, rfl, rfl, HP, HO⟩ := hrel
    by_cases hlt : k < l.length
    · have hgk := List.getElem?_eq_getElem hlt
      generalize l[k] = x at hgk
      have HGK := Aside0.mk hgk
      obtain ⟨y0, ⟨p0, p1, p2⟩, y2, y3⟩ := x
      have hn : n ≤ k := HP.out.2.2.2
      obtain ⟨ad, rfl, d0, d1, d2, d3, d4, d5⟩ := act_at HR.out HO.out.bel k _ hgk
      dsimp only at d0 d1 d2 d3 d4 d5
      clear hgk
      have HWL := Aside0.mk (show way.length ≤ 1000000000 by rw [HP.out.2.2.1]; omega)
      have HKL := Aside0.mk (show k < 1000000000 by omega)
      have HNL := Aside0.mk (show (n + 1) * 32 ≤ 140737488355328 by omega)
      have HN9 := Aside0.mk (show n ≤ 1000000000 by omega)
      have HLB := Aside0.mk (show (left.length + 1) * 32 ≤ 140737488355328 by rw [HP.out.2.1]; omega)
      obtain ⟨bv, hbv⟩ : ∃ bv : Bool, decide (0 ≤ y2 ∧ y2 < (n : Int)) = bv := ⟨_, rfl⟩
      have HIN := Aside0.mk hbv
      clear hbv
      go_upto_region 11 with (fail)
      have HB := Aside0.mk (HO.out.alloc (.cells #[.int .i64 y0, .int .i64 p0, .int .i64 p1, .string p2, .int .i64 y2, .int .u8 y3] 40))
      obtain ⟨wb, hwb⟩ : ∃ wb, wb = wr.alloc (.cells #[.int .i64 y0, .int .i64 p0, .int .i64 p1, .string p2, .int .i64 y2, .int .u8 y3] 40) := ⟨_, rfl⟩
      obtain ⟨gb, hgb⟩ : ∃ gb, gb = wr.heap.size := ⟨_, rfl⟩
      rw [← hwb] at HB ⊢
      rw [← hgb] at HB ⊢
      clear hwb hgb d0 d1 d2 d3 d4 d5
      go_upto_region 12 with (go_at_call 16; ((with_reducible refine (NetAll HB.out.r2 n HP.out.2.2.1 HN9.out).mono ?_)); rintro e w5 ⟨A7, c7, rfl, h⟩; have H5 := Aside0.mk (show Own w w5 [Row k25 25 (.slice A7 n c7) way, NetA gx way k, Blk gb (.cells #[.int .i64 y0, .int .i64 p0, .int .i64 p1, .string p2, .int .i64 y2, .int .u8 y3] 40 (0, 0)), Row k25 25 (.slice A4 n c4) left] from h); clear h)
      have f0 : w5.cell? ⟨gb, 0, none⟩ = _ := (blk_cell H5.out.at2 0).trans rfl
      have f1 : w5.cell? ⟨gb, 1, none⟩ = _ := (blk_cell H5.out.at2 1).trans rfl
      have f2 : w5.cell? ⟨gb, 2, none⟩ = _ := (blk_cell H5.out.at2 2).trans rfl
      have f3 : w5.cell? ⟨gb, 3, none⟩ = _ := (blk_cell H5.out.at2 3).trans rfl
      have f4 : w5.cell? ⟨gb, 4, none⟩ = _ := (blk_cell H5.out.at2 4).trans rfl
      have f5 : w5.cell? ⟨gb, 5, none⟩ = _ := (blk_cell H5.out.at2 5).trans rfl
      go_cut [8] (fun v8 wx => v8 = .bool bv ∧ w5 = wx)
      case first =>
        by_cases hng : y2 < 0
        · have dge : decide (y2 ≥ 0) = false := decide_eq_false (by omega)
          have dge2 : decide (0 ≤ y2) = false := decide_eq_false (by omega)
          have HB0 := Aside0.mk (show bv = false by rw [← HIN.out]; exact decide_eq_false (by omega))
          clear hng
          go_wp2
          go_meet
          exact ⟨by rw [HB0.out], rfl⟩
        · have dge : decide (y2 ≥ 0) = true := decide_eq_true (by omega)
          have dge2 : decide (0 ≤ y2) = true := decide_eq_true (by omega)
          by_cases hlt3 : y2 < (n : Int)
          · have dlt : decide (y2 < (n : Int)) = true := decide_eq_true hlt3
            have HB0 := Aside0.mk (show bv = true by rw [← HIN.out]; exact decide_eq_true (by omega))
            clear hng hlt3
            go_wp2
            go_meet
            exact ⟨by rw [HB0.out], rfl⟩
          · have dlt : decide (y2 < (n : Int)) = false := decide_eq_false hlt3
            have HB0 := Aside0.mk (show bv = false by rw [← HIN.out]; exact decide_eq_false (by omega))
            clear hng hlt3
            go_wp2
            go_meet
            exact ⟨by rw [HB0.out], rfl⟩
      case rest =>
        obtain ⟨rfl, rfl⟩ := hcut
        go_upto_block 2 with fail
        go_cut [4] (fun v4 wx => ∃ (n2 c2 : Nat) (A2 : Option Addr) (way2 left2 : List Pk), v4 = .slice A2 n2 c2 ∧ Aside0 (left2.Perm way2 ∧ left2.length = n2 ∧ way2.length = n2 ∧ n2 ≤ k + 1) ∧ Aside0 (Own w wx [Row k25 25 (.slice A2 n2 c2) left2, NetA gx way2 (k + 1)]))
        case first =>
          by_cases h : y0 = 0
          · have q0 : (y0 == 0) = true := beq_iff_eq.mpr h
            clear h
            rcases post_cases way ⟨p0, p1, p2⟩ with he | ⟨r, hr, he⟩
            · obtain ⟨way', hway⟩ : ∃ way', way' = way ++ [(⟨p0, p1, p2⟩ : Pk)] := ⟨_, rfl⟩
              obtain ⟨r, hr⟩ : ∃ r : Int, r = 0 := ⟨_, rfl⟩
              rw [← hway, ← hr] at he
              have HE := Aside0.mk he
              have HW := Aside0.mk hway
              have hr0 : (r == 0) = true := beq_iff_eq.mpr hr
              clear he hway hr
              go_wp2_with (first
                | (go_at_call 9; ((with_reducible refine (NetPostE H5.out.r1 p0 p1 p2 HKL.out HWL.out way' r HE.out).mono ?_)); rintro e w6 ⟨rfl, h⟩; have H6 := Aside0.mk (show Own w w6 [NetA gx way' (k + 1), Row k25 25 (.slice A7 n c7) way, Blk gb (.cells #[.int .i64 y0, .int .i64 p0, .int .i64 p1, .string p2, .int .i64 y2, .int .u8 y3] 40 (0, 0)), Row k25 25 (.slice A4 n c4) left] from h); clear f0 f1 f2 f3 f4 f5; have f0 : w6.cell? ⟨gb, 0, none⟩ = _ := (blk_cell h.at2 0).trans rfl; have f1 : w6.cell? ⟨gb, 1, none⟩ = _ := (blk_cell h.at2 1).trans rfl; have f2 : w6.cell? ⟨gb, 2, none⟩ = _ := (blk_cell h.at2 2).trans rfl; have f3 : w6.cell? ⟨gb, 3, none⟩ = _ := (blk_cell h.at2 3).trans rfl; have f4 : w6.cell? ⟨gb, 4, none⟩ = _ := (blk_cell h.at2 4).trans rfl; have f5 : w6.cell? ⟨gb, 5, none⟩ = _ := (blk_cell h.at2 5).trans rfl; clear h)
                | ((with_reducible refine gate_builtin (b := .append) (xs := #[.tmp 49, .tmp 52]) rfl ?_); at_builtin; refine Own.append k25 rfl (.tmp 49) (.tmp 52) 36 25 _ 32 rfl Try.underlying36 infoP rfl (by decide) (by omega) (.slice A4 n c4) left ⟨p0, p1, p2⟩ _ rfl rfl (fun _ => k25_mkM _ _ _ _) H6.out.r3 HLB.out ?_; intro A8 c8 w8 h; rw [HP.out.2.1] at h ⊢; have H8 := Aside0.mk h; clear h))
              go_meet
              exact ⟨n + 1, c8, A8, way ++ [⟨p0, p1, p2⟩], left ++ [⟨p0, p1, p2⟩], rfl, ⟨HP.out.1.append_right _, by simp [HP.out.2.1], by simp [HP.out.2.2.1], by omega⟩, ⟨by rw [← HW.out]; exact (H8.out.pick [0, 1, 2, 3]).r2.tail.r2.tail.swap.swap⟩⟩
            · obtain ⟨way', hway⟩ : ∃ way', way' = way := ⟨_, rfl⟩
              have HE := Aside0.mk (show postR way ⟨p0, p1, p2⟩ = (way', r) by rw [hway]; exact he)
              have HW := Aside0.mk hway
              have hr0 : (r == 0) = false := beq_eq_false_iff_ne.mpr hr
              clear he hway hr
              go_wp2_with (first
                | (go_at_call 9; ((with_reducible refine (NetPostE H5.out.r1 p0 p1 p2 HKL.out HWL.out way' r HE.out).mono ?_)); rintro e w6 ⟨rfl, h⟩; have H6 := Aside0.mk (show Own w w6 [NetA gx way' (k + 1), Row k25 25 (.slice A7 n c7) way, Blk gb (.cells #[.int .i64 y0, .int .i64 p0, .int .i64 p1, .string p2, .int .i64 y2, .int .u8 y3] 40 (0, 0)), Row k25 25 (.slice A4 n c4) left] from h); clear f0 f1 f2 f3 f4 f5; have f0 : w6.cell? ⟨gb, 0, none⟩ = _ := (blk_cell h.at2 0).trans rfl; have f1 : w6.cell? ⟨gb, 1, none⟩ = _ := (blk_cell h.at2 1).trans rfl; have f2 : w6.cell? ⟨gb, 2, none⟩ = _ := (blk_cell h.at2 2).trans rfl; have f3 : w6.cell? ⟨gb, 3, none⟩ = _ := (blk_cell h.at2 3).trans rfl; have f4 : w6.cell? ⟨gb, 4, none⟩ = _ := (blk_cell h.at2 4).trans rfl; have f5 : w6.cell? ⟨gb, 5, none⟩ = _ := (blk_cell h.at2 5).trans rfl; clear h))
              go_meet
              exact ⟨n, c4, A4, way, left, rfl, ⟨HP.out.1, HP.out.2.1, HP.out.2.2.1, by omega⟩, ⟨by rw [← HW.out]; exact H6.out.r3.r2.tail.r2.tail⟩⟩

          · have q0 : (y0 == 0) = false := beq_eq_false_iff_ne.mpr h
            clear h
            by_cases h : y0 = 1
            · have q1 : (y0 == 1) = true := beq_iff_eq.mpr h
              clear h
              cases bv with
              | true =>
                have hin := of_decide_eq_true HIN.out
                obtain ⟨j, hj⟩ : ∃ j : Nat, y2 = j := ⟨y2.toNat, by omega⟩
                subst hj
                have hjn : j < n := by omega
                have hjw : j < way.length := by rw [HP.out.2.2.1]; exact hjn
                have hgj := List.getElem?_eq_getElem hjw
                generalize way[j] = q at hgj
                have HGJ := Aside0.mk hgj
                have hml : q ∈ left := HP.out.1.mem_iff.2 (List.mem_of_getElem? hgj)
                obtain ⟨kf, hkf, hgf⟩ := findR_mem hml
                have HKF := Aside0.mk hkf
                have HGF := Aside0.mk hgf
                obtain ⟨x0, x1, x2⟩ := q
                have hkn : kf < n := by have := (List.getElem?_eq_some_iff.1 hgf).1; rw [HP.out.2.1] at this; exact this
                clear hgj hml hkf hgf hin
                obtain ⟨bw, c7b, e1⟩ := row_form' (H5.out) (by rw [HP.out.2.2.1]; omega)
                rw [HP.out.2.2.1] at e1
                injection e1 with e1 e2 e3
                clear e2 e3
                subst e1
                have hfb := add_at bw
                obtain ⟨bl, c4b, e1⟩ := row_form' (H5.out.r3) (by rw [HP.out.2.1]; omega)
                rw [HP.out.2.1] at e1
                injection e1 with e1 e2 e3
                clear e2 e3
                subst e1
                have hcap : n ≤ c4 := by obtain ⟨_, _, e, hc, _⟩ := Own.row_reads (H5.out.r3); have := HP.out.2.1; injection e with _ e2 e3; omega
                have hic : kf ≤ c4 := by omega
                have hjc : kf + 1 ≤ c4 := by omega
                have hw64 : wrap64 ((kf : Int) + 1) = (kf : Int) + 1 := by unfold wrap64; omega
                have htn : ((kf : Int) + 1).toNat = kf + 1 := by omega
                have hb1 : (0 : Int) ≤ (kf : Int) + 1 := by omega
                have hb2 : (kf : Int) + 1 ≤ (n : Int) := by omega
                have HT := Aside0.mk (show (left.take kf).length = kf by rw [List.length_take, HP.out.2.1]; omega)
                have HER := Aside0.mk (show left.take kf ++ left.drop (kf + 1) = left.eraseIdx kf from (List.eraseIdx_eq_take_drop_succ ..).symm)
                obtain ⟨A5, hA, hA5⟩ : ∃ A5 : Addr, (if c4 = kf + 1 then (some ⟨bl, 0, none⟩ : Option Addr) else some ⟨bl, (kf + 1) * 3, none⟩) = some A5 ∧ (kf + 1 < n → (some A5 : Option Addr) = some ⟨bl, (kf + 1) * 3, none⟩) := by
                  by_cases hq : c4 = kf + 1
                  · exact ⟨⟨bl, 0, none⟩, by simp [hq], fun h => by omega⟩
                  · exact ⟨⟨bl, (kf + 1) * 3, none⟩, by simp [hq], fun _ => rfl⟩
                have HC5 := Aside0.mk (fun (W : World) (hC : Kd.C k25 W (some ⟨bl, 0, none⟩) left.length left) => by
                  have h := C_drop hC (kf + 1) (by rw [HP.out.2.1]; omega) (some A5) (by rw [HP.out.2.1]; exact hA5)
                  rw [HP.out.2.1] at h
                  exact h)
                have HC4 := Aside0.mk (fun (W : World) (hC : Kd.C k25 W (some ⟨bl, 0, none⟩) left.length left) => C_take hC kf (by rw [HP.out.2.1]; omega))
                have HL5 := Aside0.mk (show kf + (n - (kf + 1)) ≤ 1000000000 by omega)
                have HL4 := Aside0.mk (show 0 + kf ≤ 1000000000 by omega)
                clear hcap hA5
                have HE := Aside0.mk (take_in way j _ HGJ.out)
                go_upto_region 22 with (go_at_call 11; ((with_reducible refine (NetTakeE H5.out.r1 j HWL.out (way.eraseIdx j) x0 x1 x2 0 HE.out).mono ?_)); rintro e w6 ⟨rfl, h⟩; have H6 := Aside0.mk (show Own w w6 [NetA gx (way.eraseIdx j) k, Row k25 25 (.slice (some ⟨bw, 0, none⟩) n c7) way, Blk gb (.cells #[.int .i64 y0, .int .i64 p0, .int .i64 p1, .string p2, .int .i64 (j : Int), .int .u8 y3] 40 (0, 0)), Row k25 25 (.slice (some ⟨bl, 0, none⟩) n c4) left] from h); clear f0 f1 f2 f3 f4 f5; have f0 : w6.cell? ⟨gb, 0, none⟩ = _ := (blk_cell h.at2 0).trans rfl; have f1 : w6.cell? ⟨gb, 1, none⟩ = _ := (blk_cell h.at2 1).trans rfl; have f2 : w6.cell? ⟨gb, 2, none⟩ = _ := (blk_cell h.at2 2).trans rfl; have f3 : w6.cell? ⟨gb, 3, none⟩ = _ := (blk_cell h.at2 3).trans rfl; have f4 : w6.cell? ⟨gb, 4, none⟩ = _ := (blk_cell h.at2 4).trans rfl; have f5 : w6.cell? ⟨gb, 5, none⟩ = _ := (blk_cell h.at2 5).trans rfl; clear h)
                have HT9 := Aside0.mk (H6.out.alloc (.cells #[.int .i64 x0, .int .i64 x1, .string x2] 25))
                obtain ⟨wt, hwt⟩ : ∃ wt, wt = w6.alloc (.cells #[.int .i64 x0, .int .i64 x1, .string x2] 25) := ⟨_, rfl⟩
                obtain ⟨gt, hgt⟩ : ∃ gt, gt = w6.heap.size := ⟨_, rfl⟩
                rw [← hwt] at HT9 ⊢
                rw [← hgt] at HT9 ⊢
                clear hwt hgt f0 f1 f2 f3 f4 f5
                have g0 := (blk_cell HT9.out.at0 0).trans rfl
                have g1 := (blk_cell HT9.out.at0 1).trans rfl
                have g2 := (blk_cell HT9.out.at0 2).trans rfl
                go_upto_region 23 with (go_at_call 18; ((with_reducible refine (find_calls (HT9.out.r4) x0 x1 x2 HN9.out).mono ?_)); rintro e w7 ⟨rfl, h⟩; rw [HKF.out]; have H7 := Aside0.mk h; clear h)
                clear g0 g1 g2
                have g0 := (blk_cell H7.out.at1 0).trans rfl
                have g1 := (blk_cell H7.out.at1 1).trans rfl
                have g2 := (blk_cell H7.out.at1 2).trans rfl
                have f4 := (blk_cell (H7.out.get 4 rfl).1 4).trans rfl
                have m0 := pk_cell (H7.out.r3) j _ HGJ.out 0 _ rfl
                have m1 := pk_cell (H7.out.r3) j _ HGJ.out 1 _ rfl
                have m2 := pk_cell (H7.out.r3) j _ HGJ.out 2 _ rfl
                rw [Nat.add_zero] at m0
                have hq := fun W => (neqPk x0 x0 x1 x1 x2 x2 W).trans (by rw [samePk_self]; try rfl)
                have hneg : decide ((kf : Int) < 0) = false := decide_eq_false (by omega)
                go_wp2
                go_quiet (fail)
                go_wp2
                clear hq g0 g1 g2 f4 m0 m1 m2
                have HD := Aside0.mk (H7.out.drewN nq).drew
                refine start_ (n := 11) (S := fun _ => True) (ds := []) #[false, false, false, false, false, false, false, false, false, false, false] (by kernel_rfl) rfl rfl trivial (fun hHeld => ?_)
                generalize hwd : (World.drew _) = wd at HD hHeld ⊢
                clear hwd
                refine pure_ (i := 1) (N := some 83) (v := ?_) (a' := ?_) #[false, true, false, false, false, false, false, false, false, false, false] rfl rfl (by kernel_rfl) (fun _ _ _ h => h) (Or.inl ⟨by rfl, ?_⟩) ?_ ?_
                rotate_left
                · intro w'
                  go_simp
                  with_reducible rfl
                rotate_left
                · simp only [Act.put, List.setIfInBounds_toArray, List.set_cons_zero, List.set_cons_succ, i64_w, i32_w]
                  rfl
                refine pure_ (i := 2) (N := some 84) (v := ?_) (a' := ?_) #[false, true, true, false, false, false, false, false, false, false, false] rfl rfl (by kernel_rfl) (fun _ _ _ h => h) (Or.inl ⟨by rfl, ?_⟩) ?_ ?_
                rotate_left
                · intro w'
                  go_simp
                  with_reducible rfl
                rotate_left
                · simp only [Act.put, List.setIfInBounds_toArray, List.set_cons_zero, List.set_cons_succ, i64_w, i32_w]
                  rfl
                refine pure_ (i := 3) (N := some 85) (v := ?_) (a' := ?_) #[false, true, true, true, false, false, false, false, false, false, false] rfl rfl (by kernel_rfl) (fun _ _ _ h => h) (Or.inl ⟨by rfl, ?_⟩) ?_ ?_
                rotate_left
                · intro w'
                  go_simp
                  with_reducible rfl
                rotate_left
                · simp only [Act.put, List.setIfInBounds_toArray, List.set_cons_zero, List.set_cons_succ, i64_w, i32_w]
                  rfl
                refine pure_ (i := 5) (N := some 87) (v := ?_) (a' := ?_) #[false, true, true, true, false, true, false, false, false, false, false] rfl rfl (by kernel_rfl) (fun _ _ _ h => h) (Or.inl ⟨by rfl, ?_⟩) ?_ ?_
                rotate_left
                · intro w'
                  go_simp
                  with_reducible rfl
                rotate_left
                · simp only [Act.put, List.setIfInBounds_toArray, List.set_cons_zero, List.set_cons_succ, i64_w, i32_w]
                  rfl
                refine pure_ (i := 6) (N := some 88) (v := ?_) (a' := ?_) #[false, true, true, true, false, true, true, false, false, false, false] rfl rfl (by kernel_rfl) (fun _ _ _ h => h) (Or.inl ⟨by rfl, ?_⟩) ?_ ?_
                rotate_left
                · intro w'
                  go_simp
                  with_reducible rfl
                rotate_left
                · simp only [Act.put, List.setIfInBounds_toArray, List.set_cons_zero, List.set_cons_succ, i64_w, i32_w]
                  rfl
                refine pure_ (i := 7) (N := some 89) (v := ?_) (a' := ?_) #[false, true, true, true, false, true, true, true, false, false, false] rfl rfl (by kernel_rfl) (fun _ _ _ h => h) (Or.inl ⟨by rfl, ?_⟩) ?_ ?_
                rotate_left
                · intro w'
                  go_simp
                  with_reducible rfl
                rotate_left
                · simp only [Act.put, List.setIfInBounds_toArray, List.set_cons_zero, List.set_cons_succ, i64_w, i32_w]
                  rfl
                refine pure_ (i := 8) (N := some 90) (v := ?_) (a' := ?_) #[false, true, true, true, false, true, true, true, true, false, false] rfl rfl (by kernel_rfl) (fun _ _ _ h => h) (Or.inl ⟨by rfl, ?_⟩) ?_ ?_
                rotate_left
                · intro w'
                  go_simp
                  with_reducible rfl
                rotate_left
                · simp only [Act.put, List.setIfInBounds_toArray, List.set_cons_zero, List.set_cons_succ, i64_w, i32_w]
                  rfl
                refine one_ (i := 0) (N := some 82) #[true, true, true, true, false, true, true, true, true, false, false] rfl rfl (by kernel_rfl) (by decide) (fun K hK => ?_)
                refine value_ (w1 := ?_) (v := ?_) (by rfl) rfl ?_ ?_
                rotate_left 2
                · go_simp
                  constructor
                  · rfl
                  · rfl
                refine hK.out _ _ trivial (fun hHeld => ?_)
                clear hK K
                refine norm_ (a' := ?_) ?_ ?_
                rotate_left
                · simp only [Act.put, List.setIfInBounds_toArray, List.set_cons_zero, List.set_cons_succ, i64_w, i32_w]
                  rfl
                have HZ := Aside0.mk (pk_shut (l := []) (n := 0) (c := 0) (cur := #[]) rfl (Nat.le_refl _) (by decide) rfl (fun j x hx => by simp at hx) (HD.out.alloc (.cells #[] 25)))
                generalize hbz : wd.heap.size = bz at HZ ⊢
                clear hbz
                obtain ⟨wz, hwz⟩ : ∃ wz, wz = wd.alloc (.cells #[] 25) := ⟨_, rfl⟩
                rw [← hwz] at HZ ⊢
                clear hwz
                refine one_ (i := 4) (N := some 86) #[true, true, true, true, true, true, true, true, true, false, false] rfl rfl (by kernel_rfl) (by decide) (fun K hK => ?_)
                rw [if_pos (by rfl)]
                refine oper_of_list rfl ?_
                refine own_append_pk rfl (.tmp 82) (.tmp 85) rfl (.slice (some ⟨bz, 0, none⟩) 0 0) [] (left.take kf) (some ⟨bl, 0, none⟩) kf c4 0 rfl rfl rfl HZ.out (HC4.out _ (row_C HZ.out.r1)) HL4.out ?_
                intro A8 c8 w8 h
                rw [List.nil_append, Nat.zero_add] at h
                rw [Nat.zero_add]
                have H8 := Aside0.mk h
                clear h
                show wpList _ _ _ _ (Act.put _ (some 86) _) _
                show K _ _
                refine hK.out _ _ trivial (fun hHeld => ?_)
                clear hK K
                refine norm_ (a' := ?_) ?_ ?_
                rotate_left
                · simp only [Act.put, List.setIfInBounds_toArray, List.set_cons_zero, List.set_cons_succ, i64_w, i32_w]
                  rfl
                refine one_ (i := 9) (N := some 91) #[true, true, true, true, true, true, true, true, true, true, false] rfl rfl (by kernel_rfl) (by decide) (fun K hK => ?_)
                rw [if_pos (by rfl)]
                refine oper_of_list rfl ?_
                refine own_append_pk rfl (.tmp 86) (.tmp 90) rfl (.slice A8 kf c8) (left.take kf) (left.drop (kf + 1)) (some A5) (n - (kf + 1)) (c4 - (kf + 1)) kf HT.out rfl rfl H8.out (HC5.out _ (row_C H8.out.r1)) HL5.out ?_
                intro A9 c9 w9 h
                rw [HER.out] at h
                have H9 := Aside0.mk h
                clear h
                show wpList _ _ _ _ (Act.put _ (some 91) _) _
                show K _ _
                refine hK.out _ _ trivial (fun hHeld => ?_)
                clear hK K
                refine norm_ (a' := ?_) ?_ ?_
                rotate_left
                · simp only [Act.put, List.setIfInBounds_toArray, List.set_cons_zero, List.set_cons_succ, i64_w, i32_w]
                  rfl
                refine pure_ (i := 10) (N := some 4) (v := ?_) (a' := ?_) #[true, true, true, true, true, true, true, true, true, true, true] rfl rfl (by kernel_rfl) (fun _ _ _ h => h) (Or.inl ⟨by rfl, ?_⟩) ?_ ?_
                rotate_left
                · intro w'
                  go_simp
                  with_reducible rfl
                rotate_left
                · simp only [Act.put, List.setIfInBounds_toArray, List.set_cons_zero, List.set_cons_succ, i64_w, i32_w]
                  rfl
                refine done_ (by kernel_rfl) ?_
                go_wp2
                go_meet
                exact ⟨kf + (n - (kf + 1)), c9, A9, way.eraseIdx j, left.eraseIdx kf, rfl, ⟨perm_both HP.out.1 kf j _ HGF.out HGJ.out, by rw [List.length_eraseIdx, if_pos (by rw [HP.out.2.1]; omega), HP.out.2.1]; omega, by rw [List.length_eraseIdx, if_pos (by rw [HP.out.2.2.1]; omega), HP.out.2.2.1]; omega, by omega⟩, ⟨(net_mono (Nat.le_succ k) (H9.out.pick [3, 0])).swap⟩⟩
              | false =>
                have hin := of_decide_eq_false HIN.out
                have HNI := Aside0.mk (show ¬ (0 ≤ y2 ∧ y2 < (way.length : Int)) by rw [HP.out.2.2.1]; exact hin)
                clear hin
                have HE := Aside0.mk (take_out way y2 HNI.out)
                go_wp2_with (first
                  | (go_at_call 11; ((with_reducible refine (NetTakeE H5.out.r1 y2 HWL.out way 0 0 ⟨#[]⟩ 4 HE.out).mono ?_)); rintro e w6 ⟨rfl, h⟩; have H6 := Aside0.mk (show Own w w6 [NetA gx way k, Row k25 25 (.slice A7 n c7) way, Blk gb (.cells #[.int .i64 y0, .int .i64 p0, .int .i64 p1, .string p2, .int .i64 y2, .int .u8 y3] 40 (0, 0)), Row k25 25 (.slice A4 n c4) left] from h); clear f0 f1 f2 f3 f4 f5; have f0 : w6.cell? ⟨gb, 0, none⟩ = _ := (blk_cell h.at2 0).trans rfl; have f1 : w6.cell? ⟨gb, 1, none⟩ = _ := (blk_cell h.at2 1).trans rfl; have f2 : w6.cell? ⟨gb, 2, none⟩ = _ := (blk_cell h.at2 2).trans rfl; have f3 : w6.cell? ⟨gb, 3, none⟩ = _ := (blk_cell h.at2 3).trans rfl; have f4 : w6.cell? ⟨gb, 4, none⟩ = _ := (blk_cell h.at2 4).trans rfl; have f5 : w6.cell? ⟨gb, 5, none⟩ = _ := (blk_cell h.at2 5).trans rfl; clear h))
                go_meet
                exact ⟨n, c4, A4, way, left, rfl, ⟨HP.out.1, HP.out.2.1, HP.out.2.2.1, by omega⟩, ⟨(net_mono (Nat.le_succ k) (H6.out.pick [0, 3])).swap.junk _⟩⟩
            · have q1 : (y0 == 1) = false := beq_eq_false_iff_ne.mpr h
              clear h
              by_cases h : y0 = 2
              · have q2 : (y0 == 2) = true := beq_iff_eq.mpr h
                clear h
                cases bv with
                | true =>
                  have hin := of_decide_eq_true HIN.out
                  obtain ⟨j, hj⟩ : ∃ j : Nat, y2 = j := ⟨y2.toNat, by omega⟩
                  subst hj
                  have hjn : j < n := by omega
                  have hjw : j < way.length := by rw [HP.out.2.2.1]; exact hjn
                  have hgj := List.getElem?_eq_getElem hjw
                  generalize way[j] = q at hgj
                  have HGJ := Aside0.mk hgj
                  have hml : q ∈ left := HP.out.1.mem_iff.2 (List.mem_of_getElem? hgj)
                  obtain ⟨kf, hkf, hgf⟩ := findR_mem hml
                  have HKF := Aside0.mk hkf
                  have HGF := Aside0.mk hgf
                  obtain ⟨x0, x1, x2⟩ := q
                  have hkn : kf < n := by have := (List.getElem?_eq_some_iff.1 hgf).1; rw [HP.out.2.1] at this; exact this
                  clear hgj hml hkf hgf hin
                  obtain ⟨bw, c7b, e1⟩ := row_form' (H5.out) (by rw [HP.out.2.2.1]; omega)
                  rw [HP.out.2.2.1] at e1
                  injection e1 with e1 e2 e3
                  clear e2 e3
                  subst e1
                  have hfb := add_at bw
                  obtain ⟨bl, c4b, e1⟩ := row_form' (H5.out.r3) (by rw [HP.out.2.1]; omega)
                  rw [HP.out.2.1] at e1
                  injection e1 with e1 e2 e3
                  clear e2 e3
                  subst e1
                  have hcap : n ≤ c4 := by obtain ⟨_, _, e, hc, _⟩ := Own.row_reads (H5.out.r3); have := HP.out.2.1; injection e with _ e2 e3; omega
                  have hic : kf ≤ c4 := by omega
                  have hjc : kf + 1 ≤ c4 := by omega
                  have hw64 : wrap64 ((kf : Int) + 1) = (kf : Int) + 1 := by unfold wrap64; omega
                  have htn : ((kf : Int) + 1).toNat = kf + 1 := by omega
                  have hb1 : (0 : Int) ≤ (kf : Int) + 1 := by omega
                  have hb2 : (kf : Int) + 1 ≤ (n : Int) := by omega
                  have HT := Aside0.mk (show (left.take kf).length = kf by rw [List.length_take, HP.out.2.1]; omega)
                  have HER := Aside0.mk (show left.take kf ++ left.drop (kf + 1) = left.eraseIdx kf from (List.eraseIdx_eq_take_drop_succ ..).symm)
                  obtain ⟨A5, hA, hA5⟩ : ∃ A5 : Addr, (if c4 = kf + 1 then (some ⟨bl, 0, none⟩ : Option Addr) else some ⟨bl, (kf + 1) * 3, none⟩) = some A5 ∧ (kf + 1 < n → (some A5 : Option Addr) = some ⟨bl, (kf + 1) * 3, none⟩) := by
                    by_cases hq : c4 = kf + 1
                    · exact ⟨⟨bl, 0, none⟩, by simp [hq], fun h => by omega⟩
                    · exact ⟨⟨bl, (kf + 1) * 3, none⟩, by simp [hq], fun _ => rfl⟩
                  have HC5 := Aside0.mk (fun (W : World) (hC : Kd.C k25 W (some ⟨bl, 0, none⟩) left.length left) => by
                    have h := C_drop hC (kf + 1) (by rw [HP.out.2.1]; omega) (some A5) (by rw [HP.out.2.1]; exact hA5)
                    rw [HP.out.2.1] at h
                    exact h)
                  have HC4 := Aside0.mk (fun (W : World) (hC : Kd.C k25 W (some ⟨bl, 0, none⟩) left.length left) => C_take hC kf (by rw [HP.out.2.1]; omega))
                  have HL5 := Aside0.mk (show kf + (n - (kf + 1)) ≤ 1000000000 by omega)
                  have HL4 := Aside0.mk (show 0 + kf ≤ 1000000000 by omega)
                  clear hcap hA5
                  have HE := Aside0.mk (take_in way j _ HGJ.out)
                  have hneg : decide ((kf : Int) < 0) = false := decide_eq_false (by omega)
                  go_wp2_with (first
                    | (go_at_call 13; ((with_reducible refine (NetLoseE H5.out.r1 j HWL.out (way.eraseIdx j) _ 0 HE.out).mono ?_)); rintro e w6 ⟨rfl, h⟩; have H6 := Aside0.mk (show Own w w6 [NetA gx (way.eraseIdx j) k, Row k25 25 (.slice (some ⟨bw, 0, none⟩) n c7) way, Blk gb (.cells #[.int .i64 y0, .int .i64 p0, .int .i64 p1, .string p2, .int .i64 (j : Int), .int .u8 y3] 40 (0, 0)), Row k25 25 (.slice (some ⟨bl, 0, none⟩) n c4) left] from h); clear f0 f1 f2 f3 f4 f5; have f0 : w6.cell? ⟨gb, 0, none⟩ = _ := (blk_cell h.at2 0).trans rfl; have f1 : w6.cell? ⟨gb, 1, none⟩ = _ := (blk_cell h.at2 1).trans rfl; have f2 : w6.cell? ⟨gb, 2, none⟩ = _ := (blk_cell h.at2 2).trans rfl; have f3 : w6.cell? ⟨gb, 3, none⟩ = _ := (blk_cell h.at2 3).trans rfl; have f4 : w6.cell? ⟨gb, 4, none⟩ = _ := (blk_cell h.at2 4).trans rfl; have f5 : w6.cell? ⟨gb, 5, none⟩ = _ := (blk_cell h.at2 5).trans rfl; clear h; have m0 := pk_cell (H6.out.r1) j _ HGJ.out 0 _ rfl; have m1 := pk_cell (H6.out.r1) j _ HGJ.out 1 _ rfl; have m2 := pk_cell (H6.out.r1) j _ HGJ.out 2 _ rfl; rw [Nat.add_zero] at m0)
                    | (go_at_call 18; ((with_reducible refine (find_calls (H6.out.r3) x0 x1 x2 HN9.out).mono ?_)); rintro e w7 ⟨rfl, h⟩; rw [HKF.out]; have H7 := Aside0.mk h; clear h))
                  clear m0 m1 m2 f0 f1 f2 f3 f4 f5
                  have HD := Aside0.mk H7.out.drew
                  refine start_ (n := 11) (S := fun _ => True) (ds := []) #[false, false, false, false, false, false, false, false, false, false, false] (by kernel_rfl) rfl rfl trivial (fun hHeld => ?_)
                  generalize hwd : (World.drew _) = wd at HD hHeld ⊢
                  clear hwd
                  refine pure_ (i := 1) (N := some 112) (v := ?_) (a' := ?_) #[false, true, false, false, false, false, false, false, false, false, false] rfl rfl (by kernel_rfl) (fun _ _ _ h => h) (Or.inl ⟨by rfl, ?_⟩) ?_ ?_
                  rotate_left
                  · intro w'
                    go_simp
                    with_reducible rfl
                  rotate_left
                  · simp only [Act.put, List.setIfInBounds_toArray, List.set_cons_zero, List.set_cons_succ, i64_w, i32_w]
                    rfl
                  refine pure_ (i := 2) (N := some 113) (v := ?_) (a' := ?_) #[false, true, true, false, false, false, false, false, false, false, false] rfl rfl (by kernel_rfl) (fun _ _ _ h => h) (Or.inl ⟨by rfl, ?_⟩) ?_ ?_
                  rotate_left
                  · intro w'
                    go_simp
                    with_reducible rfl
                  rotate_left
                  · simp only [Act.put, List.setIfInBounds_toArray, List.set_cons_zero, List.set_cons_succ, i64_w, i32_w]
                    rfl
                  refine pure_ (i := 3) (N := some 114) (v := ?_) (a' := ?_) #[false, true, true, true, false, false, false, false, false, false, false] rfl rfl (by kernel_rfl) (fun _ _ _ h => h) (Or.inl ⟨by rfl, ?_⟩) ?_ ?_
                  rotate_left
                  · intro w'
                    go_simp
                    with_reducible rfl
                  rotate_left
                  · simp only [Act.put, List.setIfInBounds_toArray, List.set_cons_zero, List.set_cons_succ, i64_w, i32_w]
                    rfl
                  refine pure_ (i := 5) (N := some 116) (v := ?_) (a' := ?_) #[false, true, true, true, false, true, false, false, false, false, false] rfl rfl (by kernel_rfl) (fun _ _ _ h => h) (Or.inl ⟨by rfl, ?_⟩) ?_ ?_
                  rotate_left
                  · intro w'
                    go_simp
                    with_reducible rfl
                  rotate_left
                  · simp only [Act.put, List.setIfInBounds_toArray, List.set_cons_zero, List.set_cons_succ, i64_w, i32_w]
                    rfl
                  refine pure_ (i := 6) (N := some 117) (v := ?_) (a' := ?_) #[false, true, true, true, false, true, true, false, false, false, false] rfl rfl (by kernel_rfl) (fun _ _ _ h => h) (Or.inl ⟨by rfl, ?_⟩) ?_ ?_
                  rotate_left
                  · intro w'
                    go_simp
                    with_reducible rfl
                  rotate_left
                  · simp only [Act.put, List.setIfInBounds_toArray, List.set_cons_zero, List.set_cons_succ, i64_w, i32_w]
                    rfl
                  refine pure_ (i := 7) (N := some 118) (v := ?_) (a' := ?_) #[false, true, true, true, false, true, true, true, false, false, false] rfl rfl (by kernel_rfl) (fun _ _ _ h => h) (Or.inl ⟨by rfl, ?_⟩) ?_ ?_
                  rotate_left
                  · intro w'
                    go_simp
                    with_reducible rfl
                  rotate_left
                  · simp only [Act.put, List.setIfInBounds_toArray, List.set_cons_zero, List.set_cons_succ, i64_w, i32_w]
                    rfl
                  refine pure_ (i := 8) (N := some 119) (v := ?_) (a' := ?_) #[false, true, true, true, false, true, true, true, true, false, false] rfl rfl (by kernel_rfl) (fun _ _ _ h => h) (Or.inl ⟨by rfl, ?_⟩) ?_ ?_
                  rotate_left
                  · intro w'
                    go_simp
                    with_reducible rfl
                  rotate_left
                  · simp only [Act.put, List.setIfInBounds_toArray, List.set_cons_zero, List.set_cons_succ, i64_w, i32_w]
                    rfl
                  refine one_ (i := 0) (N := some 111) #[true, true, true, true, false, true, true, true, true, false, false] rfl rfl (by kernel_rfl) (by decide) (fun K hK => ?_)
                  refine value_ (w1 := ?_) (v := ?_) (by rfl) rfl ?_ ?_
                  rotate_left 2
                  · go_simp
                    constructor
                    · rfl
                    · rfl
                  refine hK.out _ _ trivial (fun hHeld => ?_)
                  clear hK K
                  refine norm_ (a' := ?_) ?_ ?_
                  rotate_left
                  · simp only [Act.put, List.setIfInBounds_toArray, List.set_cons_zero, List.set_cons_succ, i64_w, i32_w]
                    rfl
                  have HZ := Aside0.mk (pk_shut (l := []) (n := 0) (c := 0) (cur := #[]) rfl (Nat.le_refl _) (by decide) rfl (fun j x hx => by simp at hx) (HD.out.alloc (.cells #[] 25)))
                  generalize hbz : wd.heap.size = bz at HZ ⊢
                  clear hbz
                  obtain ⟨wz, hwz⟩ : ∃ wz, wz = wd.alloc (.cells #[] 25) := ⟨_, rfl⟩
                  rw [← hwz] at HZ ⊢
                  clear hwz
                  refine one_ (i := 4) (N := some 115) #[true, true, true, true, true, true, true, true, true, false, false] rfl rfl (by kernel_rfl) (by decide) (fun K hK => ?_)
                  rw [if_pos (by rfl)]
                  refine oper_of_list rfl ?_
                  refine own_append_pk rfl (.tmp 111) (.tmp 114) rfl (.slice (some ⟨bz, 0, none⟩) 0 0) [] (left.take kf) (some ⟨bl, 0, none⟩) kf c4 0 rfl rfl rfl HZ.out (HC4.out _ (row_C HZ.out.r1)) HL4.out ?_
                  intro A8 c8 w8 h
                  rw [List.nil_append, Nat.zero_add] at h
                  rw [Nat.zero_add]
                  have H8 := Aside0.mk h
                  clear h
                  show wpList _ _ _ _ (Act.put _ (some 115) _) _
                  show K _ _
                  refine hK.out _ _ trivial (fun hHeld => ?_)
                  clear hK K
                  refine norm_ (a' := ?_) ?_ ?_
                  rotate_left
                  · simp only [Act.put, List.setIfInBounds_toArray, List.set_cons_zero, List.set_cons_succ, i64_w, i32_w]
                    rfl
                  refine one_ (i := 9) (N := some 120) #[true, true, true, true, true, true, true, true, true, true, false] rfl rfl (by kernel_rfl) (by decide) (fun K hK => ?_)
                  rw [if_pos (by rfl)]
                  refine oper_of_list rfl ?_
                  refine own_append_pk rfl (.tmp 115) (.tmp 119) rfl (.slice A8 kf c8) (left.take kf) (left.drop (kf + 1)) (some A5) (n - (kf + 1)) (c4 - (kf + 1)) kf HT.out rfl rfl H8.out (HC5.out _ (row_C H8.out.r1)) HL5.out ?_
                  intro A9 c9 w9 h
                  rw [HER.out] at h
                  have H9 := Aside0.mk h
                  clear h
                  show wpList _ _ _ _ (Act.put _ (some 120) _) _
                  show K _ _
                  refine hK.out _ _ trivial (fun hHeld => ?_)
                  clear hK K
                  refine norm_ (a' := ?_) ?_ ?_
                  rotate_left
                  · simp only [Act.put, List.setIfInBounds_toArray, List.set_cons_zero, List.set_cons_succ, i64_w, i32_w]
                    rfl
                  refine pure_ (i := 10) (N := some 4) (v := ?_) (a' := ?_) #[true, true, true, true, true, true, true, true, true, true, true] rfl rfl (by kernel_rfl) (fun _ _ _ h => h) (Or.inl ⟨by rfl, ?_⟩) ?_ ?_
                  rotate_left
                  · intro w'
                    go_simp
                    with_reducible rfl
                  rotate_left
                  · simp only [Act.put, List.setIfInBounds_toArray, List.set_cons_zero, List.set_cons_succ, i64_w, i32_w]
                    rfl
                  refine done_ (by kernel_rfl) ?_
                  go_wp2
                  go_meet
                  exact ⟨kf + (n - (kf + 1)), c9, A9, way.eraseIdx j, left.eraseIdx kf, rfl, ⟨perm_both HP.out.1 kf j _ HGF.out HGJ.out, by rw [List.length_eraseIdx, if_pos (by rw [HP.out.2.1]; omega), HP.out.2.1]; omega, by rw [List.length_eraseIdx, if_pos (by rw [HP.out.2.2.1]; omega), HP.out.2.2.1]; omega, by omega⟩, ⟨(net_mono (Nat.le_succ k) (H9.out.pick [2, 0])).swap⟩⟩
                | false =>
                  have hin := of_decide_eq_false HIN.out
                  have HNI := Aside0.mk (show ¬ (0 ≤ y2 ∧ y2 < (way.length : Int)) by rw [HP.out.2.2.1]; exact hin)
                  clear hin
                  have HE := Aside0.mk (take_out way y2 HNI.out)
                  go_wp2_with (first
                    | (go_at_call 13; ((with_reducible refine (NetLoseE H5.out.r1 y2 HWL.out way _ 4 HE.out).mono ?_)); rintro e w6 ⟨rfl, h⟩; have H6 := Aside0.mk (show Own w w6 [NetA gx way k, Row k25 25 (.slice A7 n c7) way, Blk gb (.cells #[.int .i64 y0, .int .i64 p0, .int .i64 p1, .string p2, .int .i64 y2, .int .u8 y3] 40 (0, 0)), Row k25 25 (.slice A4 n c4) left] from h); clear f0 f1 f2 f3 f4 f5; have f0 : w6.cell? ⟨gb, 0, none⟩ = _ := (blk_cell h.at2 0).trans rfl; have f1 : w6.cell? ⟨gb, 1, none⟩ = _ := (blk_cell h.at2 1).trans rfl; have f2 : w6.cell? ⟨gb, 2, none⟩ = _ := (blk_cell h.at2 2).trans rfl; have f3 : w6.cell? ⟨gb, 3, none⟩ = _ := (blk_cell h.at2 3).trans rfl; have f4 : w6.cell? ⟨gb, 4, none⟩ = _ := (blk_cell h.at2 4).trans rfl; have f5 : w6.cell? ⟨gb, 5, none⟩ = _ := (blk_cell h.at2 5).trans rfl; clear h))
                  go_meet
                  exact ⟨n, c4, A4, way, left, rfl, ⟨HP.out.1, HP.out.2.1, HP.out.2.2.1, by omega⟩, ⟨(net_mono (Nat.le_succ k) (H6.out.pick [0, 3])).swap⟩⟩
              · have q2 : (y0 == 2) = false := beq_eq_false_iff_ne.mpr h
                clear h
                by_cases h : y0 = 3
                · have q3 : (y0 == 3) = true := beq_iff_eq.mpr h
                  clear h
                  cases bv with
                  | true =>
                    have hin := of_decide_eq_true HIN.out
                    obtain ⟨j, hj⟩ : ∃ j : Nat, y2 = j := ⟨y2.toNat, by omega⟩
                    subst hj
                    have hjn : j < n := by omega
                    have hjw : j < way.length := by rw [HP.out.2.2.1]; exact hjn
                    have hgj := List.getElem?_eq_getElem hjw
                    generalize way[j] = q at hgj
                    have HGJ := Aside0.mk hgj
                    have hml : q ∈ left := HP.out.1.mem_iff.2 (List.mem_of_getElem? hgj)
                    obtain ⟨kf, hkf, hgf⟩ := findR_mem hml
                    have HKF := Aside0.mk hkf
                    have HGF := Aside0.mk hgf
                    obtain ⟨x0, x1, x2⟩ := q
                    have hkn : kf < n := by have := (List.getElem?_eq_some_iff.1 hgf).1; rw [HP.out.2.1] at this; exact this
                    clear hgj hml hkf hgf hin
                    obtain ⟨bw, c7b, e1⟩ := row_form' (H5.out) (by rw [HP.out.2.2.1]; omega)
                    rw [HP.out.2.2.1] at e1
                    injection e1 with e1 e2 e3
                    clear e2 e3
                    subst e1
                    have hfb := add_at bw
                    rcases dup_in way j _ HGJ.out with he | ⟨r, hr, he⟩
                    · obtain ⟨way', hway⟩ : ∃ way', way' = way ++ [(⟨x0, x1, x2⟩ : Pk)] := ⟨_, rfl⟩
                      obtain ⟨r, hr⟩ : ∃ r : Int, r = 0 := ⟨_, rfl⟩
                      rw [← hway, ← hr] at he
                      have HE := Aside0.mk he
                      have HW := Aside0.mk hway
                      have hr0 : (r == 0) = true := beq_iff_eq.mpr hr
                      clear he hway hr
                      go_wp2_with (first
                        | (go_at_call 10; ((with_reducible refine (NetDupE H5.out.r1 j HKL.out HWL.out way' r HE.out).mono ?_)); rintro e w6 ⟨rfl, h⟩; have H6 := Aside0.mk (show Own w w6 [NetA gx way' (k + 1), Row k25 25 (.slice (some ⟨bw, 0, none⟩) n c7) way, Blk gb (.cells #[.int .i64 y0, .int .i64 p0, .int .i64 p1, .string p2, .int .i64 (j : Int), .int .u8 y3] 40 (0, 0)), Row k25 25 (.slice A4 n c4) left] from h); clear f0 f1 f2 f3 f4 f5; have f0 : w6.cell? ⟨gb, 0, none⟩ = _ := (blk_cell h.at2 0).trans rfl; have f1 : w6.cell? ⟨gb, 1, none⟩ = _ := (blk_cell h.at2 1).trans rfl; have f2 : w6.cell? ⟨gb, 2, none⟩ = _ := (blk_cell h.at2 2).trans rfl; have f3 : w6.cell? ⟨gb, 3, none⟩ = _ := (blk_cell h.at2 3).trans rfl; have f4 : w6.cell? ⟨gb, 4, none⟩ = _ := (blk_cell h.at2 4).trans rfl; have f5 : w6.cell? ⟨gb, 5, none⟩ = _ := (blk_cell h.at2 5).trans rfl; clear h; have m0 := pk_cell (H6.out.r1) j _ HGJ.out 0 _ rfl; have m1 := pk_cell (H6.out.r1) j _ HGJ.out 1 _ rfl; have m2 := pk_cell (H6.out.r1) j _ HGJ.out 2 _ rfl; rw [Nat.add_zero] at m0)
                        | ((with_reducible refine gate_builtin (b := .append) (xs := #[.tmp 130, .tmp 136]) rfl ?_); at_builtin; refine Own.append k25 rfl (.tmp 130) (.tmp 136) 36 25 _ 32 rfl Try.underlying36 infoP rfl (by decide) (by omega) (.slice A4 n c4) left ⟨x0, x1, x2⟩ _ rfl rfl (fun _ => k25_mkM _ _ _ _) H6.out.r3 HLB.out ?_; intro A8 c8 w8 h; rw [HP.out.2.1] at h ⊢; have H8 := Aside0.mk h; clear h))
                      go_meet
                      exact ⟨n + 1, c8, A8, way ++ [⟨x0, x1, x2⟩], left ++ [⟨x0, x1, x2⟩], rfl, ⟨HP.out.1.append_right _, by simp [HP.out.2.1], by simp [HP.out.2.2.1], by omega⟩, ⟨by rw [← HW.out]; exact (H8.out.pick [0, 1])⟩⟩
                    · obtain ⟨way', hway⟩ : ∃ way', way' = way := ⟨_, rfl⟩
                      have HE := Aside0.mk (show dupR way j = (way', r) by rw [hway]; exact he)
                      have HW := Aside0.mk hway
                      have hr0 : (r == 0) = false := beq_eq_false_iff_ne.mpr hr
                      clear he hway hr
                      go_wp2_with (first
                        | (go_at_call 10; ((with_reducible refine (NetDupE H5.out.r1 j HKL.out HWL.out way' r HE.out).mono ?_)); rintro e w6 ⟨rfl, h⟩; have H6 := Aside0.mk (show Own w w6 [NetA gx way' (k + 1), Row k25 25 (.slice (some ⟨bw, 0, none⟩) n c7) way, Blk gb (.cells #[.int .i64 y0, .int .i64 p0, .int .i64 p1, .string p2, .int .i64 (j : Int), .int .u8 y3] 40 (0, 0)), Row k25 25 (.slice A4 n c4) left] from h); clear f0 f1 f2 f3 f4 f5; have f0 : w6.cell? ⟨gb, 0, none⟩ = _ := (blk_cell h.at2 0).trans rfl; have f1 : w6.cell? ⟨gb, 1, none⟩ = _ := (blk_cell h.at2 1).trans rfl; have f2 : w6.cell? ⟨gb, 2, none⟩ = _ := (blk_cell h.at2 2).trans rfl; have f3 : w6.cell? ⟨gb, 3, none⟩ = _ := (blk_cell h.at2 3).trans rfl; have f4 : w6.cell? ⟨gb, 4, none⟩ = _ := (blk_cell h.at2 4).trans rfl; have f5 : w6.cell? ⟨gb, 5, none⟩ = _ := (blk_cell h.at2 5).trans rfl; clear h))
                      go_meet
                      exact ⟨n, c4, A4, way, left, rfl, ⟨HP.out.1, HP.out.2.1, HP.out.2.2.1, by omega⟩, ⟨by rw [← HW.out]; exact H6.out.pick [3, 0]⟩⟩
                  | false =>
                    have hin := of_decide_eq_false HIN.out
                    have HNI := Aside0.mk (show ¬ (0 ≤ y2 ∧ y2 < (way.length : Int)) by rw [HP.out.2.2.1]; exact hin)
                    clear hin
                    have HE := Aside0.mk (dup_out way y2 HNI.out)
                    go_wp2_with (first
                      | (go_at_call 10; ((with_reducible refine (NetDupE H5.out.r1 y2 HKL.out HWL.out way 4 HE.out).mono ?_)); rintro e w6 ⟨rfl, h⟩; have H6 := Aside0.mk (show Own w w6 [NetA gx way (k + 1), Row k25 25 (.slice A7 n c7) way, Blk gb (.cells #[.int .i64 y0, .int .i64 p0, .int .i64 p1, .string p2, .int .i64 y2, .int .u8 y3] 40 (0, 0)), Row k25 25 (.slice A4 n c4) left] from h); clear f0 f1 f2 f3 f4 f5; have f0 : w6.cell? ⟨gb, 0, none⟩ = _ := (blk_cell h.at2 0).trans rfl; have f1 : w6.cell? ⟨gb, 1, none⟩ = _ := (blk_cell h.at2 1).trans rfl; have f2 : w6.cell? ⟨gb, 2, none⟩ = _ := (blk_cell h.at2 2).trans rfl; have f3 : w6.cell? ⟨gb, 3, none⟩ = _ := (blk_cell h.at2 3).trans rfl; have f4 : w6.cell? ⟨gb, 4, none⟩ = _ := (blk_cell h.at2 4).trans rfl; have f5 : w6.cell? ⟨gb, 5, none⟩ = _ := (blk_cell h.at2 5).trans rfl; clear h))
                    go_meet
                    exact ⟨n, c4, A4, way, left, rfl, ⟨HP.out.1, HP.out.2.1, HP.out.2.2.1, by omega⟩, ⟨H6.out.pick [3, 0]⟩⟩
                · have q3 : (y0 == 3) = false := beq_eq_false_iff_ne.mpr h
                  clear h
                  go_wp2
                  go_meet
                  exact ⟨n, c4, A4, way, left, rfl, ⟨HP.out.1, HP.out.2.1, HP.out.2.2.1, by omega⟩, ⟨(net_mono (Nat.le_succ k) (H5.out.pick [1, 3])).swap⟩⟩
        case rest =>
          obtain ⟨n2, c2, A2, way2, left2, rfl, HP2, HO2⟩ := hcut
          clear f0 f1 f2 f3 f4 f5
          have HN2 := Aside0.mk (show n2 ≤ 1000000000 by have := HP2.out.2.2.2; omega)
          have HN3 := Aside0.mk (show n2 ≤ 1000000 by have := HP2.out.2.2.2; omega)
          have HG2 := Aside0.mk (show ∀ p ∈ way2, goodP p by obtain ⟨_, _, _, _, hg, _⟩ := net_open HO2.out.r1; exact hg)
          have hmm : ((n2 : Int) != (n2 : Int)) = false := by simp
          go_wp2_with (first
            | (go_at_call 12; ((with_reducible refine (NetLen HO2.out.r1 n2 HP2.out.2.2.1).mono ?_)); rintro e w10 ⟨rfl, rfl⟩)
            | (go_at_call 16; ((with_reducible refine (NetAll HO2.out.r1 n2 HP2.out.2.2.1 HN2.out).mono ?_)); rintro e w11 ⟨A10, c10, rfl, h⟩; have H11 := Aside0.mk h; clear h)
            | (go_at_call 19; ((with_reducible refine (fits_calls H11.out HN3.out (net_le HO2.out.r1) HG2.out).mono ?_)); rintro e w12 ⟨rfl, h⟩; have H12 := Aside0.mk h; clear h))
          go_roundw
          case rel => exact ⟨k + 1, n2, c2, A2, way2, left2, by omega, by first | rfl | go_num, rfl, HP2, ⟨H12.out.pick [2, 1]⟩⟩
          case measure => first | (simp [RowKit.intOf]; done) | (simp [RowKit.intOf]; omega)
    · have hk2 : k = l.length := by omega
      subst hk2
      clear hk hlt
      go_wp2
      go_ret
      exact ⟨rfl, HO.out.bel⟩
theorem NetCounts_law (A : Option Addr) (c : Nat) (l : List ACT) (w : World) (hr : Kd.C k40 w A l.length l) (hc : l.length ≤ c) (hq : l.length ≤ 9223372036854775807 ∧ ∀ x ∈ l, Q40 x) :
    Calls Try.prog 5 #[.slice A l.length c] w fun e w' => e = .returned (.bool true) ∧ Below w.heap.size w w' := by
  obtain ⟨k, r, hg, h5⟩ := great_f l
  cases r with
  | true => exact NetCounts_great A c l w hr hc k hg
  | false => exact NetCounts_small A c l w hr hc k hg (h5 rfl) hq.2
end Go.Proofs.Ytdnpodpmicllgaa.PNetPlays
