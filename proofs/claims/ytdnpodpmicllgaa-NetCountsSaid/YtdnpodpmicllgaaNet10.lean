/- Packets on their way: the document's answer (meterref05): Take, Dup; an act beside it. -/
import Derived.Test.YtdnpodpmicllgaaNet9
import Derived.Test.YtdnpodpmicllgaaNet8
namespace Go.Proofs.Ytdnpodpmicllgaa.PNetPlays
open Go.RowKit Go.Proofs.YtdnpodpmicllgaaW.PrintWords Go.Proofs.YtdnpodpmicllgaaW.PrintLast Go.Proofs.YtdnpodpmicllgaaW.PrintMore
open Go.Proofs.YtdnpodpmicllgaaO Go.Proofs.YtdnpodpmicllgaaC
attribute [local go_sem] max2_int min2_int max_two min_two max_three min_three max_four min_four
set_option linter.unusedVariables false
set_option linter.unusedSimpArgs false
section
variable {w0 w w' : World} {R : List Asn} {g : Nat} {way : List Pk}
set_option maxHeartbeats 8000000 in
set_option maxRecDepth 100000 in
theorem RefTake_no (h : Own w0 w (RefA g way :: R)) (i : Int) (hi : ¬ (0 ≤ i ∧ i < way.length)) : Calls Try.prog 27 #[.pointer (some ⟨g, 0, none⟩), .int .i64 i] w fun e w' => e = .returned (.tuple #[.agg #[.int .i64 0, .int .i64 0, .string ⟨#[]⟩], .int .i64 4]) ∧ Own w0 w' (RefA g way :: R) := by
  obtain ⟨A, c, h2⟩ := ref_open h
  have y0 : (w.alloc (.cells #[.int .i64 0, .int .i64 0, .string ⟨#[]⟩] 25)).cell? ⟨g, 0, none⟩ = some (.slice A way.length c) := (blk_cell (h2.junk (.cells #[.int .i64 0, .int .i64 0, .string ⟨#[]⟩] 25)).at0 0).trans rfl
  have H := Aside0.mk h
  clear h h2
  by_cases h0 : i < 0
  · have d0 : decide (i < 0) = true := decide_eq_true h0
    clear hi h0
    go_enter Try.func27, Try.ntmps27
    go_wp2
    exact bodyPost_ret (v := .tuple #[.agg (pkV zPk).toArray, .int .i64 4]) (results_ct (p := 4) (q := 5) rfl _ _ ⟨w.heap.size, 0, none⟩ _ _ rfl rfl (load_pk (Own.alloc H.out _).at0)) rfl ⟨rfl, H.out.junk _⟩
  · have d0 : decide (i < 0) = false := decide_eq_false h0
    have d1 : decide (i ≥ (way.length : Int)) = true := decide_eq_true (by omega)
    have d2 : decide ((way.length : Int) ≤ i) = true := decide_eq_true (by omega)
    clear hi h0
    go_enter Try.func27, Try.ntmps27
    go_wp2
    exact bodyPost_ret (v := .tuple #[.agg (pkV zPk).toArray, .int .i64 4]) (results_ct (p := 4) (q := 5) rfl _ _ ⟨w.heap.size, 0, none⟩ _ _ rfl rfl (load_pk (Own.alloc H.out _).at0)) rfl ⟨rfl, H.out.junk _⟩
theorem RefTake (h : Own w0 w (RefA g way :: R)) (i : Int) (hl : way.length ≤ 1000000000) (way' : List Pk) (p0 p1 : Int) (p2 : ByteArray) (r : Int) (he : takeR way i = (way', ⟨p0, p1, p2⟩, r)) : Calls Try.prog 27 #[.pointer (some ⟨g, 0, none⟩), .int .i64 i] w fun e w' => e = .returned (.tuple #[.agg #[.int .i64 p0, .int .i64 p1, .string p2], .int .i64 r]) ∧ Own w0 w' (RefA g way' :: R) := by
  by_cases hi : 0 ≤ i ∧ i < way.length
  · obtain ⟨k, rfl⟩ := Int.eq_ofNat_of_zero_le hi.1
    have hk : k < way.length := by omega
    have hgk := List.getElem?_eq_getElem hk
    generalize way[k] = p at hgk
    obtain ⟨q0, q1, q2⟩ := p
    rw [takeR_yes hgk] at he
    cases he
    exact RefTake_yes h k p0 p1 p2 hgk hl
  · rw [takeR_no hi] at he
    cases he
    exact RefTake_no h i hi
set_option maxHeartbeats 8000000 in
set_option maxRecDepth 100000 in
theorem RefDup (h : Own w0 w (RefA g way :: R)) (i : Int) (hl : way.length ≤ 1000000000) (way' : List Pk) (r : Int) (he : dupR way i = (way', r)) : Calls Try.prog 28 #[.pointer (some ⟨g, 0, none⟩), .int .i64 i] w fun e w' => e = .returned (.int .i64 r) ∧ Own w0 w' (RefA g way' :: R) := by
  obtain ⟨A, c, h2⟩ := ref_open h
  have y0 : w.cell? ⟨g, 0, none⟩ = some (.slice A way.length c) := (blk_cell h2.at0 0).trans rfl
  have H := Aside0.mk h
  by_cases hi : 0 ≤ i ∧ i < way.length
  · obtain ⟨k, rfl⟩ := Int.eq_ofNat_of_zero_le hi.1
    have hk : k < way.length := by omega
    have hgk := List.getElem?_eq_getElem hk
    generalize way[k] = p at hgk
    obtain ⟨p0, p1, p2⟩ := p
    have HP := Aside0.mk (show putR way ⟨p0, p1, p2⟩ = (way', r) by unfold dupR at he; rw [if_pos hi.1, Int.toNat_natCast, hgk] at he; exact he)
    obtain ⟨bw, c2, e1⟩ := row_form' h2.tail (by omega)
    injection e1 with e1 _ e3
    subst e1
    subst e3
    have z0 := pk_cell h2.r1 k _ hgk 0 _ rfl
    have z1 := pk_cell h2.r1 k _ hgk 1 _ rfl
    have z2 := pk_cell h2.r1 k _ hgk 2 _ rfl
    rw [Nat.add_zero] at z0
    have hfa := add_at bw
    have d0 : decide ((k : Int) < 0) = false := decide_eq_false (by omega)
    have d1 : decide ((k : Int) ≥ (way.length : Int)) = false := decide_eq_false (by omega)
    have d2 : decide ((way.length : Int) ≤ (k : Int)) = false := decide_eq_false (by omega)
    have d3 : decide (way.length ≤ k) = false := decide_eq_false (by omega)
    clear h h2 hgk he hi
    go_enter Try.func28, Try.ntmps28
    go_wp2_with (go_at_call 29; ((with_reducible refine (RefPut H.out p0 p1 p2 hl _ _ HP.out).mono ?_)); rintro e w3 ⟨rfl, h⟩; have H3 := Aside0.mk h; clear h)
    go_ret
    exact ⟨rfl, H3.out⟩
  · have HR := Aside0.mk (show way' = way ∧ r = 4 by
      unfold dupR at he
      by_cases h0 : 0 ≤ i
      · rw [if_pos h0, List.getElem?_eq_none (by omega)] at he
        cases he
        exact ⟨rfl, rfl⟩
      · rw [if_neg h0] at he
        cases he
        exact ⟨rfl, rfl⟩)
    clear h h2 he
    by_cases h0 : i < 0
    · have d0 : decide (i < 0) = true := decide_eq_true h0
      clear hi h0
      go_enter Try.func28, Try.ntmps28
      go_wp2
      go_ret
      exact ⟨by rw [HR.out.2]; rfl, by rw [HR.out.1]; exact H.out⟩
    · have d0 : decide (i < 0) = false := decide_eq_false h0
      have d1 : decide (i ≥ (way.length : Int)) = true := decide_eq_true (by omega)
      have d2 : decide ((way.length : Int) ≤ i) = true := decide_eq_true (by omega)
      clear hi h0
      go_enter Try.func28, Try.ntmps28
      go_wp2
      go_ret
      exact ⟨by rw [HR.out.2]; rfl, by rw [HR.out.1]; exact H.out⟩
end
section
variable {w0 w w' : World} {R : List Asn} {gx gw N : Nat} {way : List Pk}
set_option maxHeartbeats 8000000 in
set_option maxRecDepth 100000 in
theorem does_calls (h : Own w0 w (NetA gx way N :: RefA gw way :: R)) (y0 p0 p1 : Int) (p2 : ByteArray) (y2 y3 : Int) (h3 : (Lit.int .u8 y3).wf = true) (hN0 : N ≤ 24000) (hl0 : way.length ≤ 24000) : Calls Try.prog 17 #[.pointer (some ⟨gx, 0, none⟩), .pointer (some ⟨gw, 0, none⟩), .agg #[.int .i64 y0, .int .i64 p0, .int .i64 p1, .string p2, .int .i64 y2, .int .u8 y3]] w fun e w' => e = .returned (.bool true) ∧ Own w0 w' (NetA gx (doR way ⟨y0, ⟨p0, p1, p2⟩, y2, y3⟩) (N + 80) :: RefA gw (doR way ⟨y0, ⟨p0, p1, p2⟩, y2, y3⟩) :: R) := by
  have h9 := h.alloc (.cells #[.int .i64 y0, .int .i64 p0, .int .i64 p1, .string p2, .int .i64 y2, .int .u8 y3] 40)
  have z0 := (blk_cell h9.at0 0).trans rfl
  have z4 := (blk_cell h9.at0 4).trans rfl
  have HX := Aside0.mk h9.r2.r2
  have HT0 := Aside0.mk h3
  have hN : N < 1000000000 := by omega
  have hl : way.length ≤ 1000000000 := by omega
  clear h h9 h3
  go_enter Try.func17, Try.ntmps17
  go_upto_block 0 with fail
  obtain ⟨gb, hgb⟩ : ∃ gb, gb = w.heap.size := ⟨_, rfl⟩
  obtain ⟨wx, hwx⟩ : ∃ wx, wx = w.alloc (.cells #[.int .i64 y0, .int .i64 p0, .int .i64 p1, .string p2, .int .i64 y2, .int .u8 y3] 40) := ⟨_, rfl⟩
  rw [← hwx] at z0 z4 HX ⊢
  rw [← hgb] at z0 z4 HX ⊢
  clear hgb hwx
  by_cases h0 : y0 = 0
  · subst h0
    have PS := Aside0.mk (show doR way ⟨0, ⟨p0, p1, p2⟩, y2, y3⟩ = postN way ⟨p0, p1, p2⟩ (timesT y3) from if_pos rfl)
    have hT := times_le y3
    go_wp2
    go_loopw [7] (fun v7 wr => ∃ j : Nat, j ≤ timesT y3 ∧ v7 = .int .i64 j ∧ Aside0 (Own w0 wr (NetA gx (postN way ⟨p0, p1, p2⟩ j) (N + j) :: RefA gw (postN way ⟨p0, p1, p2⟩ j) :: Blk gb (.cells #[.int .i64 0, .int .i64 p0, .int .i64 p1, .string p2, .int .i64 y2, .int .u8 y3] 40 (0, 0)) :: R))) (fun v7 _ => timesT y3 - (RowKit.intOf v7).toNat)
    case atStart => exact ⟨0, Nat.zero_le _, rfl, HX⟩
    case round =>
      obtain ⟨j, hj, rfl, HJ⟩ := hrel
      have hjl := postN_len way ⟨p0, p1, p2⟩ j
      have hj1 : N + j < 1000000000 := by omega
      have hj2 : (postN way ⟨p0, p1, p2⟩ j).length ≤ 1000000000 := by omega
      have HJ1 := Aside0.mk hj1
      have HJ2 := Aside0.mk hj2
      obtain ⟨TT, hPR⟩ : ∃ T, postR (postN way ⟨p0, p1, p2⟩ j) ⟨p0, p1, p2⟩ = T := ⟨_, rfl⟩
      obtain ⟨wy, rr⟩ := TT
      have HPR := Aside0.mk hPR
      have HWY := Aside0.mk (show postN way ⟨p0, p1, p2⟩ (j + 1) = wy by show (postR (postN way ⟨p0, p1, p2⟩ j) ⟨p0, p1, p2⟩).1 = wy; rw [hPR])
      have z5 := (blk_cell HJ.out.at2 5).trans rfl
      have HD := Aside0.mk (HJ.out.r2.drew)
      have h80 := u8_mod HT0.out
      clear hPR hj1 hj2
      by_cases hj0 : j = 0
      · subst hj0
        go_wp2
        refine start_ (n := 9) (S := fun w' => ∃ X1 X2, Own w0 w' (Blk gb (.cells #[.int .i64 0, .int .i64 p0, .int .i64 p1, .string p2, .int .i64 y2, .int .u8 y3] 40 (0, 0)) :: X1 :: X2 :: R)) (ds := []) #[false, false, false, false, false, false, false, false, false] (by kernel_rfl) rfl rfl ⟨_, _, HD.out⟩ (fun hHeld => ?_)
        generalize hwd : (World.drew _) = wd at HD hHeld ⊢
        clear hwd
        refine pure_ (i := 0) (N := some 30) (v := ?_) (a' := ?_) #[true, false, false, false, false, false, false, false, false] rfl rfl (by kernel_rfl) (fun _ _ _ h => h) (Or.inl ⟨by rfl, ?_⟩) ?_ ?_
        rotate_left
        · intro w'
          go_simp
          with_reducible rfl
        rotate_left
        · simp only [Act.put, List.setIfInBounds_toArray, List.set_cons_zero, List.set_cons_succ, i64_w, i32_w]
          rfl
        refine pure_ (i := 1) (N := some 31) (v := ?_) (a' := ?_) #[true, true, false, false, false, false, false, false, false] rfl rfl (by kernel_rfl) (fun _ _ _ h => h) (Or.inl ⟨by rfl, ?_⟩) ?_ ?_
        rotate_left
        · intro w'
          go_simp
          with_reducible rfl
        rotate_left
        · simp only [Act.put, List.setIfInBounds_toArray, List.set_cons_zero, List.set_cons_succ, i64_w, i32_w]
          rfl
        refine take_ (i := 2) (N := some 32) (v := ?_) (a' := ?_) #[true, true, true, false, false, false, false, false, false] rfl rfl (by kernel_rfl) (fun _ _ _ h => h) (Or.inl ⟨by rfl, ?_⟩) hHeld ?_ ?_
        rotate_left
        · rintro w' s0
          obtain ⟨X1_, X2_, s0⟩ := s0; have q0 := (blk_cell s0.at0 1).trans rfl; have q1 := (blk_cell s0.at0 2).trans rfl; have q2 := (blk_cell s0.at0 3).trans rfl
          go_simp
          with_reducible rfl
        rotate_left
        · simp only [Act.put, List.setIfInBounds_toArray, List.set_cons_zero, List.set_cons_succ, i64_w, i32_w]
          rfl
        refine pure_ (i := 4) (N := some 34) (v := ?_) (a' := ?_) #[true, true, true, false, true, false, false, false, false] rfl rfl (by kernel_rfl) (fun _ _ _ h => h) (Or.inl ⟨by rfl, ?_⟩) ?_ ?_
        rotate_left
        · intro w'
          go_simp
          with_reducible rfl
        rotate_left
        · simp only [Act.put, List.setIfInBounds_toArray, List.set_cons_zero, List.set_cons_succ, i64_w, i32_w]
          rfl
        refine pure_ (i := 5) (N := some 35) (v := ?_) (a' := ?_) #[true, true, true, false, true, true, false, false, false] rfl rfl (by kernel_rfl) (fun _ _ _ h => h) (Or.inl ⟨by rfl, ?_⟩) ?_ ?_
        rotate_left
        · intro w'
          go_simp
          with_reducible rfl
        rotate_left
        · simp only [Act.put, List.setIfInBounds_toArray, List.set_cons_zero, List.set_cons_succ, i64_w, i32_w]
          rfl
        refine take_ (i := 6) (N := some 36) (v := ?_) (a' := ?_) #[true, true, true, false, true, true, true, false, false] rfl rfl (by kernel_rfl) (fun _ _ _ h => h) (Or.inl ⟨by rfl, ?_⟩) hHeld ?_ ?_
        rotate_left
        · rintro w' s0
          obtain ⟨X1_, X2_, s0⟩ := s0; have q0 := (blk_cell s0.at0 1).trans rfl; have q1 := (blk_cell s0.at0 2).trans rfl; have q2 := (blk_cell s0.at0 3).trans rfl
          go_simp
          with_reducible rfl
        rotate_left
        · simp only [Act.put, List.setIfInBounds_toArray, List.set_cons_zero, List.set_cons_succ, i64_w, i32_w]
          rfl
        refine one_ (i := 3) (N := some 33) #[true, true, true, true, true, true, true, false, false] rfl rfl (by kernel_rfl) (by decide) (fun K hK => ?_)
        refine goes_ Try.func9 (by kernel_rfl) rfl #[.pointer (some ⟨gx, 0, none⟩), .agg #[.int .i64 p0, .int .i64 p1, .string p2]] (by rfl) rfl rfl (by (try simp only [List.map_toArray, List.map_cons, List.map_nil]); first | done | rfl) ?_
        with_reducible refine (NetPostE HD.out.r1 p0 p1 p2 HJ1.out HJ2.out wy rr HPR.out).mono ?_
        rintro e w6 ⟨rfl, h⟩
        have H6 := Aside0.mk h.r1
        clear h
        refine ⟨_, rfl, ?_⟩
        refine hK.out _ _ ⟨_, _, H6.out⟩ (fun hHeld => ?_)
        clear hK K
        refine norm_ (a' := ?_) ?_ ?_
        rotate_left
        · simp only [Act.put, List.setIfInBounds_toArray, List.set_cons_zero, List.set_cons_succ, i64_w, i32_w]
          rfl
        refine one_ (i := 7) (N := some 37) #[true, true, true, true, true, true, true, true, false] rfl rfl (by kernel_rfl) (by decide) (fun K hK => ?_)
        refine goes_ Try.func26 (by kernel_rfl) rfl #[.pointer (some ⟨gw, 0, none⟩), .agg #[.int .i64 p0, .int .i64 p1, .string p2]] (by rfl) rfl rfl (by (try simp only [List.map_toArray, List.map_cons, List.map_nil]); first | done | rfl) ?_
        with_reducible refine (RefPost H6.out.r2 p0 p1 p2 HJ2.out wy rr HPR.out).mono ?_
        rintro e w7 ⟨rfl, h⟩
        have H7 := Aside0.mk h
        clear h
        refine ⟨_, rfl, ?_⟩
        refine hK.out _ _ ⟨_, _, H7.out.r1⟩ (fun hHeld => ?_)
        clear hK K
        refine norm_ (a' := ?_) ?_ ?_
        rotate_left
        · simp only [Act.put, List.setIfInBounds_toArray, List.set_cons_zero, List.set_cons_succ, i64_w, i32_w]
          rfl
        have hmm : (rr != rr) = false := by simp
        refine pure_ (i := 8) (N := some 38) (v := ?_) (a' := ?_) #[true, true, true, true, true, true, true, true, true] rfl rfl (by kernel_rfl) (fun _ _ _ h => h) (Or.inl ⟨by rfl, ?_⟩) ?_ ?_
        rotate_left
        · intro w'
          go_simp
          with_reducible rfl
        rotate_left
        · simp only [Act.put, List.setIfInBounds_toArray, List.set_cons_zero, List.set_cons_succ, i64_w, i32_w]
          rfl
        refine done_ (by kernel_rfl) ?_
        go_wp2
        go_roundw
        case rel => exact ⟨0 + 1, by omega, by first | rfl | go_num, ⟨by have q := H7.out.r2; rw [← HWY.out] at q; exact q⟩⟩
        case measure => first | (simp [RowKit.intOf]; done) | (simp [RowKit.intOf]; omega)
      · have qj : ((j : Int) == 0) = false := beq_eq_false_iff_ne.mpr (by omega)
        by_cases hc : j < timesT y3
        · have dT : decide ((j : Int) < wrap64 (y3.tmod 80)) = true := decide_eq_true (by rw [h80]; unfold timesT at hc; split at hc <;> omega)
          clear h80
          go_wp2
          refine start_ (n := 9) (S := fun w' => ∃ X1 X2, Own w0 w' (Blk gb (.cells #[.int .i64 0, .int .i64 p0, .int .i64 p1, .string p2, .int .i64 y2, .int .u8 y3] 40 (0, 0)) :: X1 :: X2 :: R)) (ds := []) #[false, false, false, false, false, false, false, false, false] (by kernel_rfl) rfl rfl ⟨_, _, HD.out⟩ (fun hHeld => ?_)
          generalize hwd : (World.drew _) = wd at HD hHeld ⊢
          clear hwd
          refine pure_ (i := 0) (N := some 30) (v := ?_) (a' := ?_) #[true, false, false, false, false, false, false, false, false] rfl rfl (by kernel_rfl) (fun _ _ _ h => h) (Or.inl ⟨by rfl, ?_⟩) ?_ ?_
          rotate_left
          · intro w'
            go_simp
            with_reducible rfl
          rotate_left
          · simp only [Act.put, List.setIfInBounds_toArray, List.set_cons_zero, List.set_cons_succ, i64_w, i32_w]
            rfl
          refine pure_ (i := 1) (N := some 31) (v := ?_) (a' := ?_) #[true, true, false, false, false, false, false, false, false] rfl rfl (by kernel_rfl) (fun _ _ _ h => h) (Or.inl ⟨by rfl, ?_⟩) ?_ ?_
          rotate_left
          · intro w'
            go_simp
            with_reducible rfl
          rotate_left
          · simp only [Act.put, List.setIfInBounds_toArray, List.set_cons_zero, List.set_cons_succ, i64_w, i32_w]
            rfl
          refine take_ (i := 2) (N := some 32) (v := ?_) (a' := ?_) #[true, true, true, false, false, false, false, false, false] rfl rfl (by kernel_rfl) (fun _ _ _ h => h) (Or.inl ⟨by rfl, ?_⟩) hHeld ?_ ?_
          rotate_left
          · rintro w' s0
            obtain ⟨X1_, X2_, s0⟩ := s0; have q0 := (blk_cell s0.at0 1).trans rfl; have q1 := (blk_cell s0.at0 2).trans rfl; have q2 := (blk_cell s0.at0 3).trans rfl
            go_simp
            with_reducible rfl
          rotate_left
          · simp only [Act.put, List.setIfInBounds_toArray, List.set_cons_zero, List.set_cons_succ, i64_w, i32_w]
            rfl
          refine pure_ (i := 4) (N := some 34) (v := ?_) (a' := ?_) #[true, true, true, false, true, false, false, false, false] rfl rfl (by kernel_rfl) (fun _ _ _ h => h) (Or.inl ⟨by rfl, ?_⟩) ?_ ?_
          rotate_left
          · intro w'
            go_simp
            with_reducible rfl
          rotate_left
          · simp only [Act.put, List.setIfInBounds_toArray, List.set_cons_zero, List.set_cons_succ, i64_w, i32_w]
            rfl
          refine pure_ (i := 5) (N := some 35) (v := ?_) (a' := ?_) #[true, true, true, false, true, true, false, false, false] rfl rfl (by kernel_rfl) (fun _ _ _ h => h) (Or.inl ⟨by rfl, ?_⟩) ?_ ?_
          rotate_left
          · intro w'
            go_simp
            with_reducible rfl
          rotate_left
          · simp only [Act.put, List.setIfInBounds_toArray, List.set_cons_zero, List.set_cons_succ, i64_w, i32_w]
            rfl
          refine take_ (i := 6) (N := some 36) (v := ?_) (a' := ?_) #[true, true, true, false, true, true, true, false, false] rfl rfl (by kernel_rfl) (fun _ _ _ h => h) (Or.inl ⟨by rfl, ?_⟩) hHeld ?_ ?_
          rotate_left
          · rintro w' s0
            obtain ⟨X1_, X2_, s0⟩ := s0; have q0 := (blk_cell s0.at0 1).trans rfl; have q1 := (blk_cell s0.at0 2).trans rfl; have q2 := (blk_cell s0.at0 3).trans rfl
            go_simp
            with_reducible rfl
          rotate_left
          · simp only [Act.put, List.setIfInBounds_toArray, List.set_cons_zero, List.set_cons_succ, i64_w, i32_w]
            rfl
          refine one_ (i := 3) (N := some 33) #[true, true, true, true, true, true, true, false, false] rfl rfl (by kernel_rfl) (by decide) (fun K hK => ?_)
          refine goes_ Try.func9 (by kernel_rfl) rfl #[.pointer (some ⟨gx, 0, none⟩), .agg #[.int .i64 p0, .int .i64 p1, .string p2]] (by rfl) rfl rfl (by (try simp only [List.map_toArray, List.map_cons, List.map_nil]); first | done | rfl) ?_
          with_reducible refine (NetPostE HD.out.r1 p0 p1 p2 HJ1.out HJ2.out wy rr HPR.out).mono ?_
          rintro e w6 ⟨rfl, h⟩
          have H6 := Aside0.mk h.r1
          clear h
          refine ⟨_, rfl, ?_⟩
          refine hK.out _ _ ⟨_, _, H6.out⟩ (fun hHeld => ?_)
          clear hK K
          refine norm_ (a' := ?_) ?_ ?_
          rotate_left
          · simp only [Act.put, List.setIfInBounds_toArray, List.set_cons_zero, List.set_cons_succ, i64_w, i32_w]
            rfl
          refine one_ (i := 7) (N := some 37) #[true, true, true, true, true, true, true, true, false] rfl rfl (by kernel_rfl) (by decide) (fun K hK => ?_)
          refine goes_ Try.func26 (by kernel_rfl) rfl #[.pointer (some ⟨gw, 0, none⟩), .agg #[.int .i64 p0, .int .i64 p1, .string p2]] (by rfl) rfl rfl (by (try simp only [List.map_toArray, List.map_cons, List.map_nil]); first | done | rfl) ?_
          with_reducible refine (RefPost H6.out.r2 p0 p1 p2 HJ2.out wy rr HPR.out).mono ?_
          rintro e w7 ⟨rfl, h⟩
          have H7 := Aside0.mk h
          clear h
          refine ⟨_, rfl, ?_⟩
          refine hK.out _ _ ⟨_, _, H7.out.r1⟩ (fun hHeld => ?_)
          clear hK K
          refine norm_ (a' := ?_) ?_ ?_
          rotate_left
          · simp only [Act.put, List.setIfInBounds_toArray, List.set_cons_zero, List.set_cons_succ, i64_w, i32_w]
            rfl
          have hmm : (rr != rr) = false := by simp
          refine pure_ (i := 8) (N := some 38) (v := ?_) (a' := ?_) #[true, true, true, true, true, true, true, true, true] rfl rfl (by kernel_rfl) (fun _ _ _ h => h) (Or.inl ⟨by rfl, ?_⟩) ?_ ?_
          rotate_left
          · intro w'
            go_simp
            with_reducible rfl
          rotate_left
          · simp only [Act.put, List.setIfInBounds_toArray, List.set_cons_zero, List.set_cons_succ, i64_w, i32_w]
            rfl
          refine done_ (by kernel_rfl) ?_
          go_wp2
          go_roundw
          case rel => exact ⟨j + 1, by omega, by first | rfl | go_num, ⟨by have q := H7.out.r2; rw [← HWY.out] at q; exact q⟩⟩
          case measure => first | (simp [RowKit.intOf]; done) | (simp [RowKit.intOf]; omega)
        · have dT : decide ((j : Int) < wrap64 (y3.tmod 80)) = false := decide_eq_false (by rw [h80]; unfold timesT at hc; split at hc <;> omega)
          obtain rfl : j = timesT y3 := by omega
          clear h80 hc hj
          go_wp2
          go_ret
          exact ⟨rfl, by rw [PS.out]; exact (net_mono (by omega) HJ.out).r2.tail⟩
  · have H90 := Aside0.mk h0
    by_cases h1 : y0 = 1
    · clear h0
      subst h1
      obtain ⟨TT, hT⟩ : ∃ T, takeR way y2 = T := ⟨_, rfl⟩
      obtain ⟨way', ⟨q0, q1, q2⟩, r⟩ := TT
      have PS := Aside0.mk (show doR way ⟨1, ⟨p0, p1, p2⟩, y2, y3⟩ = way' by unfold doR; rw [if_neg (show ¬ ((1 : Int) = 0) by decide)]; rw [if_pos rfl]; rw [hT])
      have ET := Aside0.mk hT
      clear hT
      have hq := fun W => (eqlPk q0 q0 q1 q1 q2 q2 W).trans (by rw [samePk_self])
      go_wp2_with (first
        | (go_at_call 11; ((with_reducible refine (NetTakeE HX.out y2 hl way' q0 q1 q2 r ET.out).mono ?_)); rintro e w6 ⟨rfl, h⟩; have H6 := Aside0.mk (h.alloc (.cells #[.int .i64 q0, .int .i64 q1, .string q2] 25)); have z4 := (blk_cell (h.alloc (.cells #[.int .i64 q0, .int .i64 q1, .string q2] 25)).at3 4).trans rfl; clear h)
        | (go_at_call 27; ((with_reducible refine (RefTake H6.out.r2 y2 hl way' q0 q1 q2 r ET.out).mono ?_)); rintro e w7 ⟨rfl, h⟩; have h9 := (h.alloc (.cells #[.int .i64 q0, .int .i64 q1, .string q2] 25)); have H7 := Aside0.mk h9; have x0 := (blk_cell h9.at0 0).trans rfl; have x1 := (blk_cell h9.at0 1).trans rfl; have x2 := (blk_cell h9.at0 2).trans rfl; have u0 := (blk_cell h9.at2 0).trans rfl; have u1 := (blk_cell h9.at2 1).trans rfl; have u2 := (blk_cell h9.at2 2).trans rfl; clear h h9))
      go_ret
      exact ⟨by simp, by rw [PS.out]; exact (net_mono (by omega) H7.out.tail.r2).r2.tail.r2.tail⟩
    · have H91 := Aside0.mk h1
      by_cases h2 : y0 = 2
      · clear h0 h1
        subst h2
        obtain ⟨TT, hT⟩ : ∃ T, takeR way y2 = T := ⟨_, rfl⟩
        obtain ⟨way', ⟨q0, q1, q2⟩, r⟩ := TT
        have PS := Aside0.mk (show doR way ⟨2, ⟨p0, p1, p2⟩, y2, y3⟩ = way' by unfold doR; rw [if_neg (show ¬ ((2 : Int) = 0) by decide)]; rw [if_neg (show ¬ ((2 : Int) = 1) by decide)]; rw [if_pos rfl]; rw [hT])
        have ET := Aside0.mk hT
        clear hT
        go_wp2_with (first
          | (go_at_call 27; ((with_reducible refine (RefTake HX.out.r1 y2 hl way' q0 q1 q2 r ET.out).mono ?_)); rintro e w6 ⟨rfl, h⟩; have H6 := Aside0.mk (h.alloc (.cells #[.int .i64 q0, .int .i64 q1, .string q2] 25)); have z4 := (blk_cell (h.alloc (.cells #[.int .i64 q0, .int .i64 q1, .string q2] 25)).at3 4).trans rfl; clear h)
          | (go_at_call 13; ((with_reducible refine (NetLoseE H6.out.r2 y2 hl way' ⟨q0, q1, q2⟩ r ET.out).mono ?_)); rintro e w7 ⟨rfl, h⟩; have H7 := Aside0.mk h; clear h))
        go_ret
        exact ⟨by simp, by rw [PS.out]; exact (net_mono (by omega) H7.out).r1.tail.r2.tail⟩
      · have H92 := Aside0.mk h2
        by_cases h3 : y0 = 3
        · clear h0 h1 h2
          subst h3
          obtain ⟨TT, hT⟩ : ∃ T, dupR way y2 = T := ⟨_, rfl⟩
          obtain ⟨way', r⟩ := TT
          have PS := Aside0.mk (show doR way ⟨3, ⟨p0, p1, p2⟩, y2, y3⟩ = way' by unfold doR; rw [if_neg (show ¬ ((3 : Int) = 0) by decide)]; rw [if_neg (show ¬ ((3 : Int) = 1) by decide)]; rw [if_neg (show ¬ ((3 : Int) = 2) by decide)]; rw [if_pos rfl]; rw [hT])
          have ET := Aside0.mk hT
          clear hT
          have HD := Aside0.mk (HX.out.r2.drew)
          go_wp2
          refine start_ (n := 10) (S := fun w' => ∃ X1 X2, Own w0 w' (Blk gb (.cells #[.int .i64 3, .int .i64 p0, .int .i64 p1, .string p2, .int .i64 y2, .int .u8 y3] 40 (0, 0)) :: X1 :: X2 :: R)) (ds := []) #[false, false, false, false, false, false, false, false, false, false] (by kernel_rfl) rfl rfl ⟨_, _, HD.out⟩ (fun hHeld => ?_)
          generalize hwd : (World.drew _) = wd at HD hHeld ⊢
          clear hwd
          refine pure_ (i := 0) (N := some 80) (v := ?_) (a' := ?_) #[true, false, false, false, false, false, false, false, false, false] rfl rfl (by kernel_rfl) (fun _ _ _ h => h) (Or.inl ⟨by rfl, ?_⟩) ?_ ?_
          rotate_left
          · intro w'
            go_simp
            with_reducible rfl
          rotate_left
          · simp only [Act.put, List.setIfInBounds_toArray, List.set_cons_zero, List.set_cons_succ, i64_w, i32_w]
            rfl
          refine pure_ (i := 1) (N := some 81) (v := ?_) (a' := ?_) #[true, true, false, false, false, false, false, false, false, false] rfl rfl (by kernel_rfl) (fun _ _ _ h => h) (Or.inl ⟨by rfl, ?_⟩) ?_ ?_
          rotate_left
          · intro w'
            go_simp
            with_reducible rfl
          rotate_left
          · simp only [Act.put, List.setIfInBounds_toArray, List.set_cons_zero, List.set_cons_succ, i64_w, i32_w]
            rfl
          refine take_ (i := 2) (N := some 82) (v := ?_) (a' := ?_) #[true, true, true, false, false, false, false, false, false, false] rfl rfl (by kernel_rfl) (fun _ _ _ h => h) (Or.inl ⟨by rfl, ?_⟩) hHeld ?_ ?_
          rotate_left
          · rintro w' s0
            obtain ⟨X1_, X2_, s0⟩ := s0; have q0 := (blk_cell s0.at0 4).trans rfl
            go_simp
            with_reducible rfl
          rotate_left
          · simp only [Act.put, List.setIfInBounds_toArray, List.set_cons_zero, List.set_cons_succ, i64_w, i32_w]
            rfl
          refine pure_ (i := 4) (N := some 84) (v := ?_) (a' := ?_) #[true, true, true, false, true, false, false, false, false, false] rfl rfl (by kernel_rfl) (fun _ _ _ h => h) (Or.inl ⟨by rfl, ?_⟩) ?_ ?_
          rotate_left
          · intro w'
            go_simp
            with_reducible rfl
          rotate_left
          · simp only [Act.put, List.setIfInBounds_toArray, List.set_cons_zero, List.set_cons_succ, i64_w, i32_w]
            rfl
          refine pure_ (i := 5) (N := some 85) (v := ?_) (a' := ?_) #[true, true, true, false, true, true, false, false, false, false] rfl rfl (by kernel_rfl) (fun _ _ _ h => h) (Or.inl ⟨by rfl, ?_⟩) ?_ ?_
          rotate_left
          · intro w'
            go_simp
            with_reducible rfl
          rotate_left
          · simp only [Act.put, List.setIfInBounds_toArray, List.set_cons_zero, List.set_cons_succ, i64_w, i32_w]
            rfl
          refine take_ (i := 6) (N := some 86) (v := ?_) (a' := ?_) #[true, true, true, false, true, true, true, false, false, false] rfl rfl (by kernel_rfl) (fun _ _ _ h => h) (Or.inl ⟨by rfl, ?_⟩) hHeld ?_ ?_
          rotate_left
          · rintro w' s0
            obtain ⟨X1_, X2_, s0⟩ := s0; have q0 := (blk_cell s0.at0 4).trans rfl
            go_simp
            with_reducible rfl
          rotate_left
          · simp only [Act.put, List.setIfInBounds_toArray, List.set_cons_zero, List.set_cons_succ, i64_w, i32_w]
            rfl
          refine one_ (i := 3) (N := some 83) #[true, true, true, true, true, true, true, false, false, false] rfl rfl (by kernel_rfl) (by decide) (fun K hK => ?_)
          refine goes_ Try.func10 (by kernel_rfl) rfl #[.pointer (some ⟨gx, 0, none⟩), .int .i64 y2] (by rfl) rfl rfl (by (try simp only [List.map_toArray, List.map_cons, List.map_nil]); first | done | rfl) ?_
          with_reducible refine (NetDupE HD.out.r1 y2 hN hl way' r ET.out).mono ?_
          rintro e w6 ⟨rfl, h⟩
          have H6 := Aside0.mk h.r1
          clear h
          refine ⟨_, rfl, ?_⟩
          refine hK.out _ _ ⟨_, _, H6.out⟩ (fun hHeld => ?_)
          clear hK K
          refine norm_ (a' := ?_) ?_ ?_
          rotate_left
          · simp only [Act.put, List.setIfInBounds_toArray, List.set_cons_zero, List.set_cons_succ, i64_w, i32_w]
            rfl
          refine one_ (i := 7) (N := some 87) #[true, true, true, true, true, true, true, true, false, false] rfl rfl (by kernel_rfl) (by decide) (fun K hK => ?_)
          refine goes_ Try.func28 (by kernel_rfl) rfl #[.pointer (some ⟨gw, 0, none⟩), .int .i64 y2] (by rfl) rfl rfl (by (try simp only [List.map_toArray, List.map_cons, List.map_nil]); first | done | rfl) ?_
          with_reducible refine (RefDup H6.out.r2 y2 hl way' r ET.out).mono ?_
          rintro e w7 ⟨rfl, h⟩
          have H7 := Aside0.mk h
          clear h
          refine ⟨_, rfl, ?_⟩
          refine hK.out _ _ ⟨_, _, H7.out.r1⟩ (fun hHeld => ?_)
          clear hK K
          refine norm_ (a' := ?_) ?_ ?_
          rotate_left
          · simp only [Act.put, List.setIfInBounds_toArray, List.set_cons_zero, List.set_cons_succ, i64_w, i32_w]
            rfl
          have hmm : (r == r) = true := by simp
          refine pure_ (i := 8) (N := some 88) (v := ?_) (a' := ?_) #[true, true, true, true, true, true, true, true, true, false] rfl rfl (by kernel_rfl) (fun _ _ _ h => h) (Or.inl ⟨by rfl, ?_⟩) ?_ ?_
          rotate_left
          · intro w'
            go_simp
            with_reducible rfl
          rotate_left
          · simp only [Act.put, List.setIfInBounds_toArray, List.set_cons_zero, List.set_cons_succ, i64_w, i32_w]
            rfl
          refine pure_ (i := 9) (N := some 6) (v := ?_) (a' := ?_) #[true, true, true, true, true, true, true, true, true, true] rfl rfl (by kernel_rfl) (fun _ _ _ h => h) (Or.inl ⟨by rfl, ?_⟩) ?_ ?_
          rotate_left
          · intro w'
            go_simp
            with_reducible rfl
          rotate_left
          · simp only [Act.put, List.setIfInBounds_toArray, List.set_cons_zero, List.set_cons_succ, i64_w, i32_w]
            rfl
          refine done_ (by kernel_rfl) ?_
          go_wp2
          go_ret
          exact ⟨rfl, by rw [PS.out]; exact net_mono (by omega) H7.out.r1.tail.r1⟩
        · have H93 := Aside0.mk h3
          clear h0 h1 h2 h3
          have PS := Aside0.mk (show doR way ⟨y0, ⟨p0, p1, p2⟩, y2, y3⟩ = way by unfold doR; rw [if_neg H90.out, if_neg H91.out, if_neg H92.out, if_neg H93.out])
          have q0 : (y0 == 0) = false := beq_eq_false_iff_ne.mpr H90.out
          have n0 : (y0 != 0) = true := by simp [bne, q0]
          have q1 : (y0 == 1) = false := beq_eq_false_iff_ne.mpr H91.out
          have n1 : (y0 != 1) = true := by simp [bne, q1]
          have q2 : (y0 == 2) = false := beq_eq_false_iff_ne.mpr H92.out
          have n2 : (y0 != 2) = true := by simp [bne, q2]
          have q3 : (y0 == 3) = false := beq_eq_false_iff_ne.mpr H93.out
          have n3 : (y0 != 3) = true := by simp [bne, q3]
          go_wp2
          go_ret
          exact ⟨rfl, by rw [PS.out]; exact (net_mono (by omega) HX.out).r2.tail⟩
end
end Go.Proofs.Ytdnpodpmicllgaa.PNetPlays
