/- The law NetOrder, walked. -/
import Derived.Test.YtdnpodpmicllgaaNet8
import Derived.Deep.MidRow
namespace Go.Proofs.Ytdnpodpmicllgaa.PNetPlays
open Go.RowKit Go.Proofs.YtdnpodpmicllgaaW.PrintWords Go.Proofs.YtdnpodpmicllgaaW.PrintLast Go.Proofs.YtdnpodpmicllgaaW.PrintMore
open Go.Proofs.YtdnpodpmicllgaaO Go.Proofs.YtdnpodpmicllgaaC
attribute [local go_sem] max2_int min2_int max_two min_two max_three min_three max_four min_four
set_option linter.unusedVariables false
set_option linter.unusedSimpArgs false
def or11_T : Bool × List (List Nat × List Nat) := (true, [([], []), ([0], [0]), ([1], [1]), ([2], [2]), ([2], [2]), ([2], [2]), ([4, 5, 2], [2, 4, 5]), ([6, 2], [2, 6]), ([3, 7, 2], [2, 3, 7]), ([2, 8], [2, 8]), ([9, 2], [9]), ([10], [10]), ([11, 10, 10], [10, 11]), ([10], [10]), ([13, 10], [10, 13]), ([10], [10]), ([14, 15, 10], [10, 14, 15]), ([16, 10], [10, 16]), ([12, 17, 10], [10, 12, 17]), ([10, 18], [10, 18])])
def or11_B : List Nat := [0, 1, 3, 7, 7, 7, 55, 119, 255, 511, 1023, 2047, 4095, 2047, 10239, 2047, 59391, 124927, 262143, 524287]
theorem or11_tab : rtab .any (opsOf Try.f6 11) = or11_T := by kernel_rfl
theorem or11_bits : waitsOk or11_T.2 or11_B = true := by kernel_rfl
set_option maxHeartbeats 8000000 in
set_option maxRecDepth 100000 in
theorem NetOrder_great (A : Option Addr) (c : Nat) (l : List ACT) (w : World) (hr : Kd.C k40 w A l.length l) (hc : l.length ≤ c) (k : Nat) (hg : meterlaw05_Great.f k l = some true) :
    Calls Try.prog 6 #[.slice A l.length c] w fun e w' => e = .returned (.bool true) ∧ Below w.heap.size w w' := by
  have HR := Aside0.mk hr
  have HC := Aside0.mk hc
  have HG := Aside0.mk hg
  clear hr hc hg
  go_enter Try.func6, Try.ntmps6
  go_wp2_with (first
    | (go_at_call 14; ((with_reducible refine (awake_calls w).mono ?_)); rintro e w1 ⟨rfl, hb⟩; have H1 := Aside0.mk ((Own.nil w).below hb); clear hb)
    | (go_at_call 15; ((with_reducible refine (meterlaw05_Great.calls _ A c l true w1 (Kd.C_below HR.out H1.out.bel) HC.out HG.out).mono ?_)); rintro e w2 ⟨rfl, hb⟩; have H2 := Aside0.mk (H1.out.below hb); clear hb))
  go_ret
  exact ⟨rfl, H2.out.bel⟩
set_option maxHeartbeats 8000000 in
set_option maxRecDepth 100000 in
theorem NetOrder_small (A : Option Addr) (c : Nat) (l : List ACT) (w : World) (hr : Kd.C k40 w A l.length l) (hc : l.length ≤ c) (k : Nat) (hg : meterlaw05_Great.f k l = some false) (h300 : l.length ≤ 300) (hq : ∀ x ∈ l, Q40 x) :
    Calls Try.prog 6 #[.slice A l.length c] w fun e w' => e = .returned (.bool true) ∧ Below w.heap.size w w' := by
  have HR := Aside0.mk hr
  have HC := Aside0.mk hc
  have HG := Aside0.mk hg
  have HQ := Aside0.mk hq
  clear hr hc hg hq
  go_enter Try.func6, Try.ntmps6
  go_wp2_with (first
    | (go_at_call 14; ((with_reducible refine (awake_calls w).mono ?_)); rintro e w1 ⟨rfl, hb⟩; have H1 := Aside0.mk ((Own.nil w).below hb); clear hb)
    | (go_at_call 15; ((with_reducible refine (meterlaw05_Great.calls _ A c l false w1 (Kd.C_below HR.out H1.out.bel) HC.out HG.out).mono ?_)); rintro e w2 ⟨rfl, hb⟩; have H2 := Aside0.mk (H1.out.below hb); clear hb)
    | (go_at_call 20; ((with_reducible refine (after_calls H2.out _ c l HR.out h300 HQ.out).mono ?_)); rintro e w3 ⟨ga, rfl, h⟩; have H3 := Aside0.mk h; clear h)
    | (go_at_call 16; (obtain ⟨way, hway⟩ : ∃ way, way = l.foldl doR [] := ⟨_, rfl⟩); (have hwl := fold_len l []); (rw [← hway] at H3 hwl); (obtain ⟨n, hn⟩ : ∃ n, way.length = n := ⟨_, rfl⟩); ((with_reducible refine (NetAll H3.out n hn (by simp only [List.length_nil] at hwl; omega)).mono ?_)); rintro e w4 ⟨A1, c1, rfl, h⟩; have H4 := Aside0.mk h.r1; clear h))
  obtain ⟨N, hN⟩ : ∃ N, N = 80 * l.length := ⟨_, rfl⟩
  rw [← hN] at H4
  have hn24 : n ≤ 24000 := by simp only [List.length_nil] at hwl; omega
  have hNN : N ≤ 24000 := by omega
  have HN := Aside0.mk hn
  clear hN hwl hway hn H3
  go_loopw [5] (fun v5 wr => ∃ i : Nat, i ≤ n ∧ v5 = .int .i64 i ∧ Aside0 (Own w wr [NetA ga (way.drop i) N, Row k25 25 (.slice A1 n c1) way])) (fun v5 _ => n - (RowKit.intOf v5).toNat)
  case atStart => exact ⟨0, Nat.zero_le _, rfl, H4⟩
  case round =>
    obtain ⟨i, hi, rfl, HO⟩ := hrel
    by_cases hlt : i < n
    · have hiw : i < way.length := by rw [HN.out]; exact hlt
      have hgk := List.getElem?_eq_getElem hiw
      have hdr : way.drop i = way[i] :: way.drop (i + 1) := List.drop_eq_getElem_cons hiw
      generalize way[i] = p at hgk hdr
      have HK := Aside0.mk hgk
      obtain ⟨p0, p1, p2⟩ := p
      have ET := Aside0.mk (show takeR (way.drop i) 0 = (way.drop (i + 1), ⟨p0, p1, p2⟩, 0) by rw [hdr]; exact takeR_yes (k := 0) rfl)
      have hm : (way.drop (i + 1)).length = n - (i + 1) := by rw [List.length_drop, HN.out]
      obtain ⟨m, hme⟩ : ∃ m, m = n - (i + 1) := ⟨_, rfl⟩
      have HM := Aside0.mk (show (way.drop (i + 1)).length = m by rw [hm, hme])
      have HL := Aside0.mk (show (way.drop i).length ≤ 1000000000 by rw [List.length_drop, HN.out]; omega)
      have hq := fun W => (neqPk p0 p0 p1 p1 p2 p2 W).trans (by rw [samePk_self]; try rfl)
      obtain ⟨bw, c2, e1⟩ := row_form' HO.out.tail (by omega)
      injection e1 with e1 e2 e3
      clear e2
      subst e1
      subst e3
      have hfb := add_at bw
      have HWR := Aside0.mk (show wrap64 (wrap64 ((n : Int) - (i : Int)) - 1) = (m : Int) by unfold wrap64; omega)
      clear hgk hdr hm hiw
      go_wp2_with (go_at_call 11; ((with_reducible refine (NetTakeE HO.out 0 HL.out _ _ _ _ _ ET.out).mono ?_)); rintro e w5 ⟨rfl, h⟩; have H5 := Aside0.mk (h.alloc (.cells #[.int .i64 p0, .int .i64 p1, .string p2] 25)); clear h)
      obtain ⟨g6, hg6⟩ : ∃ g6, g6 = w5.heap.size := ⟨_, rfl⟩
      rw [← hg6] at H5 ⊢
      clear hg6
      have HD := Aside0.mk H5.out.drew
      refine start_ (n := 20) (S := fun w' => Own w w' [Blk g6 (.cells #[.int .i64 p0, .int .i64 p1, .string p2] 25 (0, 0)), NetA ga (way.drop (i + 1)) N, Row k25 25 (.slice (some ⟨bw, 0, none⟩) n c1) way]) (ds := []) #[false, false, false, false, false, false, false, false, false, false, false, false, false, false, false, false, false, false, false, false] (by kernel_rfl) rfl rfl HD.out (fun hHeld => ?_); refine with_tabW or11_tab or11_bits (fun HT_ HW_ => ?_)
      generalize hwd : (World.drew _) = wd at HD hHeld ⊢
      clear hwd
      refine pure_ (i := 0) (N := some 29) (v := ?_) (a' := ?_) #[true, false, false, false, false, false, false, false, false, false, false, false, false, false, false, false, false, false, false, false] rfl rfl (any_of HT_.out (by kernel_rfl)) (fun _ _ _ h => h) (Or.inl ⟨by rfl, ?_⟩) ?_ ?_
      rotate_left
      · intro w'
        go_simp
        with_reducible rfl
      rotate_left
      · simp only [Act.put, List.setIfInBounds_toArray, List.set_cons_zero, List.set_cons_succ, i64_w, i32_w]
        rfl
      refine pure_ (i := 1) (N := some 30) (v := ?_) (a' := ?_) #[true, true, false, false, false, false, false, false, false, false, false, false, false, false, false, false, false, false, false, false] rfl rfl (any_of HT_.out (by kernel_rfl)) (fun _ _ _ h => h) (Or.inl ⟨by rfl, ?_⟩) ?_ ?_
      rotate_left
      · intro w'
        go_simp
        with_reducible rfl
      rotate_left
      · simp only [Act.put, List.setIfInBounds_toArray, List.set_cons_zero, List.set_cons_succ, i64_w, i32_w]
        rfl
      refine pure_ (i := 2) (N := some 31) (v := ?_) (a' := ?_) #[true, true, true, false, false, false, false, false, false, false, false, false, false, false, false, false, false, false, false, false] rfl rfl (any_of HT_.out (by kernel_rfl)) (fun _ _ _ h => h) (Or.inl ⟨by rfl, ?_⟩) ?_ ?_
      rotate_left
      · intro w'
        go_simp
        with_reducible rfl
      rotate_left
      · simp only [Act.put, List.setIfInBounds_toArray, List.set_cons_zero, List.set_cons_succ, i64_w, i32_w]
        rfl
      refine take_ (i := 3) (N := some 32) (v := ?_) (a' := ?_) #[true, true, true, true, false, false, false, false, false, false, false, false, false, false, false, false, false, false, false, false] rfl rfl (take_ofW HT_.out HW_.out (by kernel_rfl)) (fun _ _ _ h => h) (Or.inl ⟨by rfl, ?_⟩) hHeld ?_ ?_
      rotate_left
      · rintro w' s0
        have q0 := (blk_cell s0.at0 0).trans rfl; have q1 := (blk_cell s0.at0 1).trans rfl; have q2 := (blk_cell s0.at0 2).trans rfl
        go_simp
        with_reducible rfl
      rotate_left
      · simp only [Act.put, List.setIfInBounds_toArray, List.set_cons_zero, List.set_cons_succ, i64_w, i32_w]
        rfl
      refine pure_ (i := 4) (N := some 33) (v := ?_) (a' := ?_) #[true, true, true, true, true, false, false, false, false, false, false, false, false, false, false, false, false, false, false, false] rfl rfl (any_of HT_.out (by kernel_rfl)) (fun _ _ _ h => h) (Or.inl ⟨by rfl, ?_⟩) ?_ ?_
      rotate_left
      · intro w'
        go_simp
        with_reducible rfl
      rotate_left
      · simp only [Act.put, List.setIfInBounds_toArray, List.set_cons_zero, List.set_cons_succ, i64_w, i32_w]
        rfl
      refine pure_ (i := 5) (N := some 34) (v := ?_) (a' := ?_) #[true, true, true, true, true, true, false, false, false, false, false, false, false, false, false, false, false, false, false, false] rfl rfl (any_of HT_.out (by kernel_rfl)) (fun _ _ _ h => h) (Or.inl ⟨by rfl, ?_⟩) ?_ ?_
      rotate_left
      · intro w'
        go_simp
        with_reducible rfl
      rotate_left
      · simp only [Act.put, List.setIfInBounds_toArray, List.set_cons_zero, List.set_cons_succ, i64_w, i32_w]
        rfl
      refine pure_ (i := 6) (N := some 35) (v := ?_) (a' := ?_) #[true, true, true, true, true, true, true, false, false, false, false, false, false, false, false, false, false, false, false, false] rfl rfl (any_of HT_.out (by kernel_rfl)) (fun _ _ _ h => h) (Or.inl ⟨by rfl, ?_⟩) ?_ ?_
      rotate_left
      · intro w'
        go_simp
        with_reducible rfl
      rotate_left
      · simp only [Act.put, List.setIfInBounds_toArray, List.set_cons_zero, List.set_cons_succ, i64_w, i32_w]
        rfl
      refine take_ (i := 7) (N := some 36) (v := ?_) (a' := ?_) #[true, true, true, true, true, true, true, true, false, false, false, false, false, false, false, false, false, false, false, false] rfl rfl (take_ofW HT_.out HW_.out (by kernel_rfl)) (fun _ _ _ h => h) (Or.inl ⟨by rfl, ?_⟩) hHeld ?_ ?_
      rotate_left
      · rintro w' s0
        have q0 := pk_cell s0.r2 i _ HK.out 0 _ rfl; have q1 := pk_cell s0.r2 i _ HK.out 1 _ rfl; have q2 := pk_cell s0.r2 i _ HK.out 2 _ rfl; (try dsimp only at q0 q1 q2); rw [Nat.add_zero] at q0
        go_simp
        with_reducible rfl
      rotate_left
      · simp only [Act.put, List.setIfInBounds_toArray, List.set_cons_zero, List.set_cons_succ, i64_w, i32_w]
        rfl
      refine pure_ (i := 8) (N := some 37) (v := ?_) (a' := ?_) #[true, true, true, true, true, true, true, true, true, false, false, false, false, false, false, false, false, false, false, false] rfl rfl (any_of HT_.out (by kernel_rfl)) (fun _ _ _ h => h) (Or.inl ⟨by rfl, ?_⟩) ?_ ?_
      rotate_left
      · intro w'
        go_simp
        with_reducible rfl
      rotate_left
      · simp only [Act.put, List.setIfInBounds_toArray, List.set_cons_zero, List.set_cons_succ, i64_w, i32_w]
        rfl
      refine pure_ (i := 9) (N := some 38) (v := ?_) (a' := ?_) #[true, true, true, true, true, true, true, true, true, true, false, false, false, false, false, false, false, false, false, false] rfl rfl (any_of HT_.out (by kernel_rfl)) (fun _ _ _ h => h) (Or.inl ⟨by rfl, ?_⟩) ?_ ?_
      rotate_left
      · intro w'
        go_simp
        with_reducible rfl
      rotate_left
      · simp only [Act.put, List.setIfInBounds_toArray, List.set_cons_zero, List.set_cons_succ, i64_w, i32_w]
        rfl
      refine pure_ (i := 10) (N := some 39) (v := ?_) (a' := ?_) #[true, true, true, true, true, true, true, true, true, true, true, false, false, false, false, false, false, false, false, false] rfl rfl (any_of HT_.out (by kernel_rfl)) (fun _ _ _ h => h) (Or.inl ⟨by rfl, ?_⟩) ?_ ?_
      rotate_left
      · intro w'
        go_simp
        with_reducible rfl
      rotate_left
      · simp only [Act.put, List.setIfInBounds_toArray, List.set_cons_zero, List.set_cons_succ, i64_w, i32_w]
        rfl
      refine pure_ (i := 11) (N := some 40) (v := ?_) (a' := ?_) #[true, true, true, true, true, true, true, true, true, true, true, true, false, false, false, false, false, false, false, false] rfl rfl (any_of HT_.out (by kernel_rfl)) (fun _ _ _ h => h) (Or.inl ⟨by rfl, ?_⟩) ?_ ?_
      rotate_left
      · intro w'
        go_simp
        with_reducible rfl
      rotate_left
      · simp only [Act.put, List.setIfInBounds_toArray, List.set_cons_zero, List.set_cons_succ, i64_w, i32_w]
        rfl
      refine pure_ (i := 13) (N := some 42) (v := ?_) (a' := ?_) #[true, true, true, true, true, true, true, true, true, true, true, true, false, true, false, false, false, false, false, false] rfl rfl (any_of HT_.out (by kernel_rfl)) (fun _ _ _ h => h) (Or.inl ⟨by rfl, ?_⟩) ?_ ?_
      rotate_left
      · intro w'
        go_simp
        with_reducible rfl
      rotate_left
      · simp only [Act.put, List.setIfInBounds_toArray, List.set_cons_zero, List.set_cons_succ, i64_w, i32_w]
        rfl
      refine pure_ (i := 14) (N := some 43) (v := ?_) (a' := ?_) #[true, true, true, true, true, true, true, true, true, true, true, true, false, true, true, false, false, false, false, false] rfl rfl (any_of HT_.out (by kernel_rfl)) (fun _ _ _ h => h) (Or.inl ⟨by rfl, ?_⟩) ?_ ?_
      rotate_left
      · intro w'
        go_simp
        with_reducible rfl
      rotate_left
      · simp only [Act.put, List.setIfInBounds_toArray, List.set_cons_zero, List.set_cons_succ, i64_w, i32_w]
        rfl
      refine pure_ (i := 15) (N := some 44) (v := ?_) (a' := ?_) #[true, true, true, true, true, true, true, true, true, true, true, true, false, true, true, true, false, false, false, false] rfl rfl (any_of HT_.out (by kernel_rfl)) (fun _ _ _ h => h) (Or.inl ⟨by rfl, ?_⟩) ?_ ?_
      rotate_left
      · intro w'
        go_simp
        with_reducible rfl
      rotate_left
      · simp only [Act.put, List.setIfInBounds_toArray, List.set_cons_zero, List.set_cons_succ, i64_w, i32_w]
        rfl
      refine pure_ (i := 16) (N := some 45) (v := ?_) (a' := ?_) #[true, true, true, true, true, true, true, true, true, true, true, true, false, true, true, true, true, false, false, false] rfl rfl (any_of HT_.out (by kernel_rfl)) (fun _ _ _ h => h) (Or.inl ⟨by rfl, ?_⟩) ?_ ?_
      rotate_left
      · intro w'
        go_simp
        with_reducible rfl
      rotate_left
      · simp only [Act.put, List.setIfInBounds_toArray, List.set_cons_zero, List.set_cons_succ, i64_w, i32_w]
        rfl
      refine pure_ (i := 17) (N := some 46) (v := ?_) (a' := ?_) #[true, true, true, true, true, true, true, true, true, true, true, true, false, true, true, true, true, true, false, false] rfl rfl (any_of HT_.out (by kernel_rfl)) (fun _ _ _ h => h) (Or.inl ⟨by rfl, ?_⟩) ?_ ?_
      rotate_left
      · intro w'
        go_simp
        with_reducible rfl
      rotate_left
      · simp only [Act.put, List.setIfInBounds_toArray, List.set_cons_zero, List.set_cons_succ, i64_w, i32_w]
        rfl
      rw [HWR.out]
      refine one_ (i := 12) (N := some 41) #[true, true, true, true, true, true, true, true, true, true, true, true, true, true, true, true, true, true, false, false] rfl rfl (one_of HT_.out (by kernel_rfl)) (by decide) (fun K hK => ?_)
      refine goes_ Try.func12 (by kernel_rfl) rfl #[.pointer (some ⟨ga, 0, none⟩)] (by rfl) rfl rfl (by (try simp only [List.map_toArray, List.map_cons, List.map_nil]); first | done | rfl) ?_
      with_reducible refine (NetLen hHeld.r1 m HM.out).mono ?_
      rintro e w9 ⟨rfl, rfl⟩
      refine ⟨_, rfl, ?_⟩
      refine hK.out _ _ hHeld (fun hHeld => ?_)
      clear hK K
      refine norm_ (a' := ?_) ?_ ?_
      rotate_left
      · simp only [Act.put, List.setIfInBounds_toArray, List.set_cons_zero, List.set_cons_succ, i64_w, i32_w]
        rfl
      have hmm : ((m : Int) != (m : Int)) = false := by simp
      refine pure_ (i := 18) (N := some 47) (v := ?_) (a' := ?_) #[true, true, true, true, true, true, true, true, true, true, true, true, true, true, true, true, true, true, true, false] rfl rfl (any_of HT_.out (by kernel_rfl)) (fun _ _ _ h => h) (Or.inl ⟨by rfl, ?_⟩) ?_ ?_
      rotate_left
      · intro w'
        go_simp
        with_reducible rfl
      rotate_left
      · simp only [Act.put, List.setIfInBounds_toArray, List.set_cons_zero, List.set_cons_succ, i64_w, i32_w]
        rfl
      refine pure_ (i := 19) (N := some 48) (v := ?_) (a' := ?_) #[true, true, true, true, true, true, true, true, true, true, true, true, true, true, true, true, true, true, true, true] rfl rfl (any_of HT_.out (by kernel_rfl)) (fun _ _ _ h => h) (Or.inl ⟨by rfl, ?_⟩) ?_ ?_
      rotate_left
      · intro w'
        go_simp
        with_reducible rfl
      rotate_left
      · simp only [Act.put, List.setIfInBounds_toArray, List.set_cons_zero, List.set_cons_succ, i64_w, i32_w]
        rfl
      refine done_ (done_of HT_.out (by kernel_rfl)) ?_
      go_wp2
      go_roundw
      case rel => exact ⟨i + 1, by omega, by first | rfl | go_num, ⟨hHeld.tail⟩⟩
      case measure => first | (simp [RowKit.intOf]; done) | (simp [RowKit.intOf]; omega)
    · have hin : i = n := by omega
      subst hin
      have hdl : way.drop i = [] := List.drop_of_length_le (by rw [HN.out]; exact Nat.le_refl _)
      rw [hdl] at HO
      have ET := Aside0.mk (show takeR [] 0 = ([], ⟨0, 0, ⟨#[]⟩⟩, 4) from takeR_no (by simp))
      have ED := Aside0.mk (show dupR [] 0 = ([], 4) by simp [dupR])
      clear hlt hi hdl
      go_wp2_with (first
        | (go_at_call 11; ((with_reducible refine (NetTakeE HO.out 0 (by decide) _ _ _ _ _ ET.out).mono ?_)); rintro e w5 ⟨rfl, h⟩; have H5 := Aside0.mk (h.junk (.cells #[.int .i64 0, .int .i64 0, .string ⟨#[]⟩] 25)); clear h)
        | (go_at_call 12; ((with_reducible refine (NetLen H5.out 0 rfl).mono ?_)); rintro e w6 ⟨rfl, rfl⟩)
        | (go_at_call 10; ((with_reducible refine (NetDupE H5.out 0 (by omega) (by decide) _ _ ED.out).mono ?_)); rintro e w7 ⟨rfl, h⟩; have H7 := Aside0.mk h; clear h)
        | (go_at_call 13; ((with_reducible refine (NetLoseE H7.out 0 (by decide) _ _ _ ET.out).mono ?_)); rintro e w8 ⟨rfl, h⟩; have H8 := Aside0.mk h; clear h))
      go_ret
      exact ⟨rfl, H8.out.bel⟩
theorem NetOrder_law (A : Option Addr) (c : Nat) (l : List ACT) (w : World) (hr : Kd.C k40 w A l.length l) (hc : l.length ≤ c) (hq : l.length ≤ 9223372036854775807 ∧ ∀ x ∈ l, Q40 x) :
    Calls Try.prog 6 #[.slice A l.length c] w fun e w' => e = .returned (.bool true) ∧ Below w.heap.size w w' := by
  obtain ⟨k, r, hg, h5⟩ := great_f l
  cases r with
  | true => exact NetOrder_great A c l w hr hc k hg
  | false => exact NetOrder_small A c l w hr hc k hg (h5 rfl) hq.2
end Go.Proofs.Ytdnpodpmicllgaa.PNetPlays
