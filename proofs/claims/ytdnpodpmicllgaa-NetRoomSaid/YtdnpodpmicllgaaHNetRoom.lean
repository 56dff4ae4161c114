/- The law NetRoom, walked. -/
import Derived.Test.YtdnpodpmicllgaaNet8
import Derived.Deep.MidRow
import Derived.Deep.QuietTactic
namespace Go.Proofs.Ytdnpodpmicllgaa.PNetPlays
open Go.RowKit Go.Proofs.YtdnpodpmicllgaaW.PrintWords Go.Proofs.YtdnpodpmicllgaaW.PrintLast Go.Proofs.YtdnpodpmicllgaaW.PrintMore
open Go.Proofs.YtdnpodpmicllgaaO Go.Proofs.YtdnpodpmicllgaaC
attribute [local go_sem] max2_int min2_int max_two min_two max_three min_three max_four min_four
set_option linter.unusedVariables false
set_option linter.unusedSimpArgs false
abbrev more4 : ByteArray := ⟨#[109, 111, 114, 101]⟩
theorem u8_mod9 {t : Int} (h : (Lit.int .u8 t).wf = true) : wrap64 (t.tmod 9) = t % 9 := by
  simp [Lit.wf, IntKind.min, IntKind.max, IntKind.signed, IntKind.bits] at h
  rw [Int.tmod_eq_emod_of_nonneg h.1]
  unfold wrap64
  omega
theorem cnt_take (way : List Pk) (i : Nat) (x : Pk) (hx : way[i]? = some x) (f t : Int) : cntW (way.take (i + 1)) f t = cntW (way.take i) f t + if x.f0 = f ∧ x.f1 = t then 1 else 0 := by
  unfold cntW
  rw [List.take_add_one, hx, Option.toList_some, List.countP_append, List.countP_singleton]
  by_cases h : x.f0 = f ∧ x.f1 = t
  · rw [if_pos h, if_pos (by simp [h.1, h.2])]
  · rw [if_neg h, if_neg (by simpa using h)]
theorem cnt_rep (way : List Pk) (p : Pk) (j : Nat) : cntW (way ++ List.replicate j p) p.f0 p.f1 = cntW way p.f0 p.f1 + j := by
  unfold cntW
  rw [List.countP_append, List.countP_replicate, if_pos (by simp)]
theorem post_repw {way : List Pk} {p : Pk} {j : Nat} (hp : goodP p) (h : cntW way p.f0 p.f1 + j < 64) : postR (way ++ List.replicate j p) p = (way ++ List.replicate (j + 1) p, 0) := by
  unfold postR putR
  rw [if_pos hp, if_pos (by rw [cnt_rep]; exact h), List.replicate_succ', List.append_assoc]
theorem post_full {way : List Pk} {p : Pk} {j : Nat} (hp : goodP p) (h : cntW way p.f0 p.f1 + j = 64) : postR (way ++ List.replicate j p) p = (way ++ List.replicate j p, 6) := by
  unfold postR putR
  rw [if_pos hp, if_neg (by rw [cnt_rep]; omega)]
theorem erase_last {way : List Pk} {p : Pk} {j : Nat} : (way ++ List.replicate (j + 1) p).eraseIdx (way.length + j) = way ++ List.replicate j p := by
  rw [List.eraseIdx_append_of_length_le (Nat.le_add_right _ _), Nat.add_sub_cancel_left, List.replicate_succ', List.eraseIdx_append_of_length_le (by simp)]
  simp
theorem get_last {way : List Pk} {p : Pk} {j : Nat} : (way ++ List.replicate (j + 1) p)[way.length + j]? = some p := by
  rw [List.getElem?_append_right (Nat.le_add_right _ _), Nat.add_sub_cancel_left]
  simp
set_option maxHeartbeats 8000000 in
set_option maxRecDepth 100000 in
theorem NetRoom_great (A : Option Addr) (c : Nat) (l : List ACT) (fr tt : Int) (w : World) (hr : Kd.C k40 w A l.length l) (hc : l.length ≤ c) (k : Nat) (hg : meterlaw05_Great.f k l = some true) :
    Calls Try.prog 7 #[.slice A l.length c, .int .u8 fr, .int .u8 tt] w fun e w' => e = .returned (.bool true) ∧ Below w.heap.size w w' := by
  have HR := Aside0.mk hr
  have HC := Aside0.mk hc
  have HG := Aside0.mk hg
  clear hr hc hg
  go_enter Try.func7, Try.ntmps7
  go_wp2_with (first
    | (go_at_call 14; ((with_reducible refine (awake_calls w).mono ?_)); rintro e w1 ⟨rfl, hb⟩; have H1 := Aside0.mk ((Own.nil w).below hb); clear hb)
    | (go_at_call 15; ((with_reducible refine (meterlaw05_Great.calls _ A c l true w1 (Kd.C_below HR.out H1.out.bel) HC.out HG.out).mono ?_)); rintro e w2 ⟨rfl, hb⟩; have H2 := Aside0.mk (H1.out.below hb); clear hb))
  go_ret
  exact ⟨rfl, H2.out.bel⟩
set_option maxHeartbeats 8000000 in
set_option maxRecDepth 100000 in
theorem NetRoom_small (A : Option Addr) (c : Nat) (l : List ACT) (fr tt : Int) (w : World) (hr : Kd.C k40 w A l.length l) (hc : l.length ≤ c) (k : Nat) (hg : meterlaw05_Great.f k l = some false) (h300 : l.length ≤ 300) (hq : ∀ x ∈ l, Q40 x) (hfr : (Lit.int .u8 fr).wf = true) (hto : (Lit.int .u8 tt).wf = true) :
    Calls Try.prog 7 #[.slice A l.length c, .int .u8 fr, .int .u8 tt] w fun e w' => e = .returned (.bool true) ∧ Below w.heap.size w w' := by
  have HR := Aside0.mk hr
  have HC := Aside0.mk hc
  have HG := Aside0.mk hg
  have HQ := Aside0.mk hq
  have hf9 : wrap64 (fr.tmod 9) = fr % 9 := u8_mod9 hfr
  have ht9 : wrap64 (tt.tmod 9) = tt % 9 := u8_mod9 hto
  obtain ⟨p0, hp0⟩ : ∃ p, p = fr % 9 := ⟨_, rfl⟩
  obtain ⟨p1, hp1⟩ : ∃ p, p = tt % 9 := ⟨_, rfl⟩
  rw [← hp0] at hf9
  rw [← hp1] at ht9
  have HGP := Aside0.mk (show goodP ⟨p0, p1, more4⟩ from ⟨by show 0 ≤ p0; omega, by show p0 < 9; omega, by show 0 ≤ p1; omega, by show p1 < 9; omega⟩)
  clear hp0 hp1 hfr hto
  clear hr hc hg hq
  go_enter Try.func7, Try.ntmps7
  go_wp2_with (first
    | (go_at_call 14; ((with_reducible refine (awake_calls w).mono ?_)); rintro e w1 ⟨rfl, hb⟩; have H1 := Aside0.mk ((Own.nil w).below hb); clear hb)
    | (go_at_call 15; ((with_reducible refine (meterlaw05_Great.calls _ A c l false w1 (Kd.C_below HR.out H1.out.bel) HC.out HG.out).mono ?_)); rintro e w2 ⟨rfl, hb⟩; have H2 := Aside0.mk (H1.out.below hb); clear hb)
    | (go_at_call 20; ((with_reducible refine (after_calls H2.out _ c l HR.out h300 HQ.out).mono ?_)); rintro e w3 ⟨ga, rfl, h⟩; have H3 := Aside0.mk (h.alloc (.cells #[.int .i64 p0, .int .i64 p1, .string ⟨#[109, 111, 114, 101]⟩] 25)).r1; clear h)
    | (go_at_call 16; (obtain ⟨way, hway⟩ : ∃ way, way = l.foldl doR [] := ⟨_, rfl⟩); (have hwl := fold_len l []); (rw [← hway] at H3 hwl); (obtain ⟨n, hn⟩ : ∃ n, way.length = n := ⟨_, rfl⟩); ((with_reducible refine (NetAll H3.out n hn (by simp only [List.length_nil] at hwl; omega)).mono ?_)); rintro e w4 ⟨A1, c1, rfl, h⟩; have H4 := Aside0.mk h.r1; clear h))
  obtain ⟨g8, hg8⟩ : ∃ g8, g8 = w3.heap.size := ⟨_, rfl⟩
  rw [← hg8] at H4 ⊢
  clear hg8
  obtain ⟨N, hN⟩ : ∃ N, N = 80 * l.length := ⟨_, rfl⟩
  rw [← hN] at H4
  have hn24 : n ≤ 24000 := by simp only [List.length_nil] at hwl; omega
  have hNN : N ≤ 24000 := by omega
  have HN := Aside0.mk hn
  clear hN hwl hway hn H3 hf9 ht9
  go_loopw [10, 11] (fun v10 v11 wr => ∃ i : Nat, i ≤ n ∧ v11 = .int .i64 i ∧ v10 = .int .i64 (cntW (way.take i) p0 p1) ∧ Aside0 (Own w wr [NetA ga way N, Row k25 25 (.slice A1 n c1) way, Blk g8 (.cells #[.int .i64 p0, .int .i64 p1, .string more4] 25 (0, 0))])) (fun _ v11 _ => n - (RowKit.intOf v11).toNat)
  case atStart => exact ⟨0, Nat.zero_le _, rfl, rfl, H4⟩
  case round =>
    obtain ⟨i, hi, rfl, rfl, HO⟩ := hrel
    by_cases hlt : i < n
    · have hiw : i < way.length := by rw [HN.out]; exact hlt
      have hgk := List.getElem?_eq_getElem hiw
      generalize way[i] = p at hgk
      obtain ⟨x0, x1, x2⟩ := p
      have hct := cnt_take way i _ hgk p0 p1
      obtain ⟨bw, c2, e1⟩ := row_form' HO.out.tail (by omega)
      injection e1 with e1 e2 e3
      clear e2
      subst e1
      subst e3
      have hfb := add_at bw
      have q0 := pk_cell HO.out.tail i _ hgk 0 _ rfl
      have q1 := pk_cell HO.out.tail i _ hgk 1 _ rfl
      have z0 := (blk_cell HO.out.at2 0).trans rfl
      have z1 := (blk_cell HO.out.at2 1).trans rfl
      rw [Nat.add_zero] at q0
      have hcl : cntW (way.take i) p0 p1 ≤ n := by unfold cntW; have h1 := List.countP_le_length (p := fun p : Pk => p.f0 == p0 && p.f1 == p1) (l := way.take i); rw [List.length_take] at h1; omega
      clear hgk hiw
      dsimp only at hct
      by_cases h0 : x0 = p0
      · by_cases h1 : x1 = p1
        · rw [if_pos ⟨h0, h1⟩] at hct
          have CT := Aside0.mk hct
          subst h0
          subst h1
          clear hct
          go_wp2
          go_quiet (fail)
          go_wp2
          go_roundw
          case rel => exact ⟨i + 1, by omega, by first | rfl | go_num, by rw [CT.out]; first | rfl | go_num, ⟨HO.out.drewN _⟩⟩
          case measure => first | (simp [RowKit.intOf]; done) | (simp [RowKit.intOf]; omega)
        · rw [if_neg (fun q => h1 q.2), Nat.add_zero] at hct
          have CT := Aside0.mk hct
          subst h0
          have hb1 : (x1 == p1) = false := beq_eq_false_iff_ne.mpr h1
          have hd1 : decide (x1 = p1) = false := decide_eq_false h1
          clear hct
          go_wp2
          go_quiet (fail)
          go_wp2
          go_roundw
          case rel => exact ⟨i + 1, by omega, by first | rfl | go_num, by rw [CT.out]; first | rfl | go_num, ⟨HO.out.drewN _⟩⟩
          case measure => first | (simp [RowKit.intOf]; done) | (simp [RowKit.intOf]; omega)
      · rw [if_neg (fun q => h0 q.1), Nat.add_zero] at hct
        have CT := Aside0.mk hct
        have hb0 : (x0 == p0) = false := beq_eq_false_iff_ne.mpr h0
        have hd0 : decide (x0 = p0) = false := decide_eq_false h0
        clear hct
        go_wp2
        go_quiet (fail)
        go_wp2
        go_roundw
        case rel => exact ⟨i + 1, by omega, by first | rfl | go_num, by rw [CT.out]; first | rfl | go_num, ⟨HO.out.drewN _⟩⟩
        case measure => first | (simp [RowKit.intOf]; done) | (simp [RowKit.intOf]; omega)
    · have hin : i = n := by omega
      subst hin
      rw [List.take_of_length_le (by rw [HN.out]; exact Nat.le_refl _)] at *
      have h64 := net_le HO.out p0 p1
      obtain ⟨m, hm⟩ : ∃ m, m = cntW way p0 p1 := ⟨_, rfl⟩
      rw [← hm] at h64 ⊢
      have HM := Aside0.mk hm
      clear hlt hi hm
      obtain ⟨wz, hwz⟩ : ∃ z, z = wr := ⟨_, rfl⟩
      rw [← hwz] at HO ⊢
      clear hwz
      go_wp2
      go_loopw [12] (fun v12 wr => ∃ j : Nat, m + j ≤ 64 ∧ v12 = .int .i64 ((m + j : Nat) : Int) ∧ Aside0 (Own w wr [NetA ga (way ++ List.replicate j ⟨p0, p1, more4⟩) (N + j), Blk g8 (.cells #[.int .i64 p0, .int .i64 p1, .string more4] 25 (0, 0))])) (fun v12 _ => 64 - (RowKit.intOf v12).toNat)
      case atStart => exact ⟨0, h64, rfl, ⟨by rw [List.replicate_zero, List.append_nil]; exact HO.out.pick [0, 2]⟩⟩
      case round =>
        obtain ⟨j, hj, rfl, HJ⟩ := hrel
        have z0 := (blk_cell HJ.out.at1 0).trans rfl
        have z1 := (blk_cell HJ.out.at1 1).trans rfl
        have z2 := (blk_cell HJ.out.at1 2).trans rfl
        have HL := Aside0.mk (show (way ++ List.replicate j (⟨p0, p1, more4⟩ : Pk)).length ≤ 1000000000 by rw [List.length_append, HN.out, List.length_replicate]; omega)
        have HNJ := Aside0.mk (show N + j < 1000000000 by omega)
        by_cases hlt : m + j < 64
        · have PR := Aside0.mk (post_repw (p := ⟨p0, p1, more4⟩) (way := way) (j := j) HGP.out (by show cntW way p0 p1 + j < 64; rw [← HM.out]; exact hlt))
          have hd : decide (((m + j : Nat) : Int) < 64) = true := decide_eq_true (by omega)
          have hd2 : decide ((m : Int) + (j : Int) < 64) = true := decide_eq_true (by omega)
          go_wp2_with (go_at_call 9; ((with_reducible refine (NetPostE HJ.out p0 p1 more4 HNJ.out HL.out _ _ PR.out).mono ?_)); rintro e w5 ⟨rfl, h⟩; have H5 := Aside0.mk h; clear h)
          go_roundw
          case rel => exact ⟨j + 1, by omega, by first | rfl | go_num, H5⟩
          case measure => first | (simp [RowKit.intOf]; done) | (simp [RowKit.intOf]; omega)
        · have hmj : m + j = 64 := by omega
          have hd : decide (((m + j : Nat) : Int) < 64) = false := decide_eq_false (by omega)
          have hd2 : decide ((m : Int) + (j : Int) < 64) = false := decide_eq_false (by omega)
          have PF := Aside0.mk (post_full (p := ⟨p0, p1, more4⟩) (way := way) (j := j) HGP.out (by show cntW way p0 p1 + j = 64; rw [← HM.out]; exact hmj))
          obtain ⟨K, hK⟩ : ∃ K, K = i + j := ⟨_, rfl⟩
          obtain ⟨K1, hK1⟩ : ∃ K1, K1 = K - 1 := ⟨_, rfl⟩
          have hcn : m ≤ i := by rw [HM.out, ← HN.out]; exact List.countP_le_length
          have HKL := Aside0.mk (show (way ++ List.replicate j (⟨p0, p1, more4⟩ : Pk)).length = K by rw [List.length_append, HN.out, List.length_replicate, hK])
          have hwr : wrap64 (wrap64 ((i : Int) + 64) - (m : Int)) = (K : Int) := by unfold wrap64; omega
          have hwl : wrap64 (K1 : Int) = (K1 : Int) := by unfold wrap64; omega
          have hwl2 : (K : Int) - 1 = (K1 : Int) := by omega
          have hne1 : ((K : Int) != (i : Int) + 64 - (m : Int)) = false := by rw [bne_eq_false_iff_eq]; omega
          have HLF := HL
          have HN1 := Aside0.mk (show N + j + 1 < 1000000000 by omega)
          have hLK : K1 < (way ++ List.replicate j (⟨p0, p1, more4⟩ : Pk)).length := by rw [HKL.out]; omega
          have hgq := List.getElem?_eq_getElem hLK
          generalize (way ++ List.replicate j (⟨p0, p1, more4⟩ : Pk))[K1] = q at hgq
          obtain ⟨q0, q1, q2⟩ := q
          have ET := Aside0.mk (takeR_yes hgq)
          by_cases hm64 : m = 64
          · have qm : ((m : Int) == 64) = true := beq_iff_eq.mpr (by omega)
            have qd : decide ((m : Int) = 64) = true := decide_eq_true (by omega)
            have hne2 : ((K : Int) != (i : Int)) = false := by rw [bne_eq_false_iff_eq]; omega
            clear hne1
            subst hm64
            clear hgq hLK hK hK1 hmj hcn hlt hj
            go_wp2_with (first
              | (go_at_call 9; ((with_reducible refine (NetPostE HJ.out p0 p1 more4 HNJ.out HL.out _ _ PF.out).mono ?_)); rintro e w6 ⟨rfl, h⟩; have H6 := Aside0.mk h; have z0 := (blk_cell h.at1 0).trans rfl; have z1 := (blk_cell h.at1 1).trans rfl; have z2 := (blk_cell h.at1 2).trans rfl; clear h)
              | (go_at_call 9; ((with_reducible refine (NetPostE H6.out p0 p1 more4 HN1.out HL.out _ _ PF.out).mono ?_)); rintro e w7 ⟨rfl, h⟩; have H7 := Aside0.mk h; clear h)
              | (go_at_call 12; ((with_reducible refine (NetLen H7.out K HKL.out).mono ?_)); rintro e w9 ⟨rfl, rfl⟩)
              | (go_at_call 11; ((with_reducible refine (NetTakeE H7.out (K1 : Int) HLF.out _ _ _ _ _ ET.out).mono ?_)); rintro e w8 ⟨rfl, h⟩; have h9 := (h.alloc (.cells #[.int .i64 q0, .int .i64 q1, .string q2] 25)).r1; have H8 := Aside0.mk h9; have x0 := (blk_cell h9.at1 0).trans rfl; have x1 := (blk_cell h9.at1 1).trans rfl; have x2 := (blk_cell h9.at1 2).trans rfl; have z0 := (blk_cell h9.at2 0).trans rfl; have z1 := (blk_cell h9.at2 1).trans rfl; have z2 := (blk_cell h9.at2 2).trans rfl; clear h h9))
            go_ret
            exact ⟨rfl, H8.out.bel⟩
          · have qm : ((m : Int) == 64) = false := beq_eq_false_iff_ne.mpr (by omega)
            have qd : decide ((m : Int) = 64) = false := decide_eq_false (by omega)
            obtain ⟨j1, rfl⟩ : ∃ j1, j = j1 + 1 := ⟨j - 1, by omega⟩
            have hd3 : decide ((m : Int) + ((j1 : Int) + 1) < 64) = false := decide_eq_false (by omega)
            have hKw : K1 = way.length + j1 := by rw [HN.out]; omega
            have hqp := hgq
            rw [hKw, get_last] at hqp
            injection hqp with hqp
            injection hqp with e0 e1 e2
            subst e0 e1 e2
            have ET2 := Aside0.mk (show takeR (way ++ List.replicate (j1 + 1) ⟨p0, p1, more4⟩) (K1 : Int) = (way ++ List.replicate j1 ⟨p0, p1, more4⟩, ⟨p0, p1, more4⟩, 0) by rw [ET.out, hKw, erase_last])
            have PR := Aside0.mk (post_repw (p := ⟨p0, p1, more4⟩) (way := way) (j := j1) HGP.out (by show cntW way p0 p1 + j1 < 64; rw [← HM.out]; omega))
            have HL1 := Aside0.mk (show (way ++ List.replicate j1 (⟨p0, p1, more4⟩ : Pk)).length ≤ 1000000000 by rw [List.length_append, HN.out, List.length_replicate]; omega)
            have HN2 := Aside0.mk (show N + (j1 + 1) + 1 + 1 < 1000000000 by omega)
            have HN3 := Aside0.mk (show N + (j1 + 1) + 1 + 1 + 1 < 1000000000 by omega)
            have hq := fun W => (eqlPk p0 p0 p1 p1 more4 more4 W).trans (by rw [samePk_self])
            clear hgq hLK hK hK1 hmj hcn hlt hj hKw hm64 ET
            go_wp2_with (first
              | (go_at_call 9; ((with_reducible refine (NetPostE HJ.out p0 p1 more4 HNJ.out HL.out _ _ PF.out).mono ?_)); rintro e w6 ⟨rfl, h⟩; have H6 := Aside0.mk h; have z0 := (blk_cell h.at1 0).trans rfl; have z1 := (blk_cell h.at1 1).trans rfl; have z2 := (blk_cell h.at1 2).trans rfl; clear h)
              | (go_at_call 9; ((with_reducible refine (NetPostE H6.out p0 p1 more4 HN1.out HL.out _ _ PF.out).mono ?_)); rintro e w7 ⟨rfl, h⟩; have H7 := Aside0.mk h; clear h)
              | (go_at_call 12; ((with_reducible refine (NetLen H7.out K HKL.out).mono ?_)); rintro e w9 ⟨rfl, rfl⟩)
              | (go_at_call 11; ((with_reducible refine (NetTakeE H7.out (K1 : Int) HLF.out _ _ _ _ _ ET2.out).mono ?_)); rintro e w8 ⟨rfl, h⟩; have h9 := (h.alloc (.cells #[.int .i64 p0, .int .i64 p1, .string more4] 25)).r1; have H8 := Aside0.mk h9; have x0 := (blk_cell h9.at1 0).trans rfl; have x1 := (blk_cell h9.at1 1).trans rfl; have x2 := (blk_cell h9.at1 2).trans rfl; have z0 := (blk_cell h9.at2 0).trans rfl; have z1 := (blk_cell h9.at2 1).trans rfl; have z2 := (blk_cell h9.at2 2).trans rfl; clear h h9)
              | (go_at_call 9; ((with_reducible refine (NetPostE H8.out p0 p1 more4 HN2.out HL1.out _ _ PR.out).mono ?_)); rintro e w10 ⟨rfl, h⟩; have H10 := Aside0.mk h; have z0 := (blk_cell h.at2 0).trans rfl; have z1 := (blk_cell h.at2 1).trans rfl; have z2 := (blk_cell h.at2 2).trans rfl; clear h)
              | (go_at_call 9; ((with_reducible refine (NetPostE H10.out p0 p1 more4 HN3.out HL.out _ _ PF.out).mono ?_)); rintro e w11 ⟨rfl, h⟩; have H11 := Aside0.mk h; clear h))
            go_ret
            exact ⟨rfl, H11.out.bel⟩
theorem NetRoom_law (A : Option Addr) (c : Nat) (l : List ACT) (fr tt : Int) (w : World) (hr : Kd.C k40 w A l.length l) (hc : l.length ≤ c) (hq : l.length ≤ 9223372036854775807 ∧ ∀ x ∈ l, Q40 x) (hfr : (Lit.int .u8 fr).wf = true) (hto : (Lit.int .u8 tt).wf = true) :
    Calls Try.prog 7 #[.slice A l.length c, .int .u8 fr, .int .u8 tt] w fun e w' => e = .returned (.bool true) ∧ Below w.heap.size w w' := by
  obtain ⟨k, r, hg, h5⟩ := great_f l
  cases r with
  | true => exact NetRoom_great A c l fr tt w hr hc k hg
  | false => exact NetRoom_small A c l fr tt w hr hc k hg (h5 rfl) hq.2 hfr hto
end Go.Proofs.Ytdnpodpmicllgaa.PNetPlays
