/- Traces: what stands. -/
import Derived.Test.YtglccegihffndaaTrc11
namespace Go.Proofs.Ytglccegihffndaa.PTracePlays
open Go.RowKit Go.Proofs.YtglccegihffndaaW.PrintWords Go.Proofs.YtglccegihffndaaW.PrintLast Go.Proofs.YtglccegihffndaaW.PrintMore
open Go.Proofs.YtglccegihffndaaO
attribute [local go_sem] max2_int min2_int max_two min_two max_three min_three max_four min_four
set_option linter.unusedVariables false
set_option linter.unusedSimpArgs false
def st8_T : Bool × List (List Nat × List Nat) := (true, [([], []), ([], []), ([0, 1], [0, 1]), ([2], [2]), ([], []), ([], []), ([4, 5], [4, 5]), ([6], [6]), ([7], [7]), ([], []), ([], []), ([9, 10], [9, 10]), ([11], [11]), ([12], [12]), ([], []), ([], []), ([14, 15], [14, 15]), ([16], [16]), ([17], [17]), ([8, 13, 18], [8, 13, 18]), ([3, 19], [3, 19])])
def st8_B : List Nat := [0, 0, 3, 7, 0, 0, 48, 112, 240, 0, 0, 1536, 3584, 7680, 0, 0, 49152, 114688, 245760, 524272, 1048575]
theorem st8_tab : rtab .any (opsOf Try.f17 8) = st8_T := by kernel_rfl
theorem st8_bits : waitsOk st8_T.2 st8_B = true := by kernel_rfl
def st14_T : Bool × List (List Nat × List Nat) := (true, [([], []), ([], []), ([0, 1], [0, 1]), ([2], [2]), ([], []), ([], []), ([4, 5], [4, 5]), ([6], [6]), ([7], [7]), ([], []), ([], []), ([9, 10], [9, 10]), ([11], [11]), ([12], [12]), ([8, 13], [8, 13]), ([3, 14], [3, 14])])
def st14_B : List Nat := [0, 0, 3, 7, 0, 0, 48, 112, 240, 0, 0, 1536, 3584, 7680, 16368, 32767]
theorem st14_tab : rtab .any (opsOf Try.f17 14) = st14_T := by kernel_rfl
theorem st14_bits : waitsOk st14_T.2 st14_B = true := by kernel_rfl
section
variable {w0 w w' : World} {R : List Asn} {g : Nat} {ss : List (List TO × List TA)}
set_option maxHeartbeats 8000000 in
set_option maxRecDepth 100000 in
theorem StandsC {A : Option Addr} {n c : Nat} {rows : List RR} (h : Own w0 w (Tr g ss :: Row k58 58 (.slice A n c) rows :: R)) (hn : rows.length = n) (hb : n ≤ 1000000000) (part : Int) (la : List TO) (lb : List TA) (lc ld : List RR) (na nb : Nat) (hla : (sAt ss part).1 = la) (hlb : (sAt ss part).2 = lb) (hlc : filt rows part true = lc) (hld : filt rows part false = ld) (hac : la = lc.map toldOf) (hbd : lb = ld.map appOf) (hna : lc.length = na) (hnb : ld.length = nb) : Calls Try.prog 17 #[.pointer (some ⟨g, 0, none⟩), .slice A n c, .int .i64 part] w fun e w' => e = .returned (.bool true) ∧ Own w0 w' (Tr g ss :: Row k58 58 (.slice A n c) rows :: R) := by
  have bc : na ≤ 1000000000 := by have := filt_len rows part true; rw [hlc, hna, hn] at this; omega
  have bd : nb ≤ 1000000000 := by have := filt_len rows part false; rw [hld, hnb, hn] at this; omega
  have na2 : la.length = na := by rw [hac, List.length_map, hna]
  have nb2 : lb.length = nb := by rw [hbd, List.length_map, hnb]
  have H := Aside0.mk h
  have G1 := Aside0.mk (show ∀ k y, lc[k]? = some y → la[k]? = some (toldOf y) from fun k y hy => by rw [hac, List.getElem?_map, hy]; rfl)
  have G2 := Aside0.mk (show ∀ k y, ld[k]? = some y → lb[k]? = some (appOf y) from fun k y hy => by rw [hbd, List.getElem?_map, hy]; rfl)
  have C1 := Aside0.mk hla
  have C2 := Aside0.mk hlb
  have C3 := Aside0.mk hlc
  have C4 := Aside0.mk hld
  have N1 := Aside0.mk hna
  have N2 := Aside0.mk hnb
  have N3 := Aside0.mk na2
  have N4 := Aside0.mk nb2
  have HN := Aside0.mk hn
  have HB := Aside0.mk hb
  have BC := Aside0.mk bc
  have BD := Aside0.mk bd
  clear h hla hlb hlc hld hac hbd hna hnb na2 nb2 hn hb
  go_enter Try.func17, Try.ntmps17
  go_wp2_with (first
    | (go_at_call 11; ((with_reducible refine (TrOutsE H.out part la na C1.out N3.out BC.out).mono ?_)); rintro e w1 ⟨A1, c1, rfl, h⟩; have H1 := Aside0.mk h; clear h)
    | (go_at_call 12; ((with_reducible refine (TrItemsE H1.out.r1 part lb nb C2.out N4.out BD.out).mono ?_)); rintro e w2 ⟨A2, c2, rfl, h⟩; have H2 := Aside0.mk h; clear h)
    | (go_at_call 21; ((with_reducible refine (OfC H2.out.r3 HN.out HB.out part true lc na C3.out N1.out).mono ?_)); rintro e w3 ⟨A3, c3, rfl, h⟩; have H3 := Aside0.mk h; clear h)
    | (go_at_call 21; ((with_reducible refine (OfC H3.out.r1 HN.out HB.out part false ld nb C4.out N2.out).mono ?_)); rintro e w4 ⟨A4, c4, rfl, h⟩; have H4 := Aside0.mk h; clear h))
  -- H4 : ld, rows, lc, App, Told, Tr
  obtain ⟨L1, hL1⟩ : ∃ L : List Asn, L = Row k58 58 (.slice A4 nb c4) ld :: Row k58 58 (.slice A n c) rows :: Row k58 58 (.slice A3 na c3) lc :: Row k48 48 (.slice A2 nb c2) lb :: Tr g ss :: R := ⟨_, rfl⟩
  have HL1 := Aside0.mk hL1
  have H5 := Aside0.mk (show Own w0 w4 (Row k46 46 (.slice A1 na c1) la :: L1) by rw [hL1]; exact H4.out.r5)
  clear hL1
  go_loopw [11] (fun v11 wr => ∃ (k : Nat) (X : Asn), k ≤ na ∧ v11 = .int .i64 k ∧ Aside0 (Own w0 wr (X :: L1)) ∧ Aside0 (k < na → ∃ b cs, A1 = some ⟨b, 0, none⟩ ∧ X = Blk b (.cells cs 46 (0, 0)) ∧ ∀ j x, k ≤ j → la[j]? = some x → ∀ i u, (toldV x)[i]? = some u → cs[j * 12 + i]? = some u)) (fun v11 _ => na - (RowKit.intOf v11).toNat)
  case atStart =>
    by_cases h0 : 0 < na
    · obtain ⟨b1, e1⟩ := row_formA H5.out (by rw [N3.out]; exact h0)
      subst e1
      obtain ⟨cs, h1, h2⟩ := told_blk H5.out
      exact ⟨0, _, Nat.zero_le _, rfl, ⟨h1⟩, ⟨fun _ => ⟨_, cs, rfl, rfl, fun j x _ => h2 j x⟩⟩⟩
    · exact ⟨0, _, Nat.zero_le _, rfl, H5, ⟨fun q => absurd q h0⟩⟩
  case round =>
    obtain ⟨k, X, hk, rfl, HO, HX⟩ := hrel
    by_cases hlt : k < na
    · obtain ⟨b1, cs, e1, e2, hcs⟩ := HX.out hlt
      subst e1
      subst e2
      have HCS := Aside0.mk hcs
      obtain ⟨y, hlc⟩ : ∃ y, lc[k]? = some y := ⟨_, List.getElem?_eq_getElem (by rw [N1.out]; exact hlt)⟩
      have hla := G1.out k y hlc
      have HI := Aside0.mk (show Own w0 wr (Blk b1 (.cells cs 46 (0, 0)) :: Row k58 58 (.slice A4 nb c4) ld :: Row k58 58 (.slice A n c) rows :: Row k58 58 (.slice A3 na c3) lc :: Row k48 48 (.slice A2 nb c2) lb :: Tr g ss :: R) by rw [← HL1.out]; exact HO.out)
      obtain ⟨b3, e3⟩ := row_formA HI.out.r3 (by rw [N1.out]; omega)
      subst e3
      obtain ⟨p, tl, ⟨x0, x1, ⟨x2, x3, x4, x5, ⟨x6, x7, x8, x9⟩⟩⟩, nd, ep, ⟨t0, t1, t2, t3, t4, t5, t6, t7⟩, cd⟩ := y
      dsimp only [toldOf] at hla
      have HLA := Aside0.mk hla
      have HLC := Aside0.mk hlc
      have hfa := add_at b1
      have hfb := add_at b3
      have hne := neqT x0 x1 x2 x3 x4 x5 x6 x7 x8 x9 nd ep
      clear hla hlc hcs
      have HW := Aside0.mk HI.out.drew
      go_wp2
      refine start_ (n := 21) (S := fun w' => Own w0 w' (Blk b1 (.cells cs 46 (0, 0)) :: Row k58 58 (.slice A4 nb c4) ld :: Row k58 58 (.slice A n c) rows :: Row k58 58 (.slice (some ⟨b3, 0, none⟩) na c3) lc :: Row k48 48 (.slice A2 nb c2) lb :: Tr g ss :: R)) (ds := []) #[false, false, false, false, false, false, false, false, false, false, false, false, false, false, false, false, false, false, false, false, false] (by kernel_rfl) rfl rfl HW.out (fun hHeld => ?_); refine with_tabW st8_tab st8_bits (fun HT_ HW_ => ?_)
      have HW2 := Aside0.mk hHeld
      clear HW
      generalize wr.drew = wd at HW2 hHeld ⊢
      refine pure_ (i := 0) (N := some 43) (v := ?_) (a' := ?_) #[true, false, false, false, false, false, false, false, false, false, false, false, false, false, false, false, false, false, false, false, false] rfl rfl (any_of HT_.out (by kernel_rfl)) (fun _ _ _ h => h) (Or.inl ⟨by rfl, ?_⟩) ?_ ?_
      rotate_left
      · intro w'
        go_simp
        with_reducible rfl
      rotate_left
      · simp only [Act.put, List.setIfInBounds_toArray, List.set_cons_zero, List.set_cons_succ, i64_w, i32_w]
        rfl
      refine pure_ (i := 1) (N := some 44) (v := ?_) (a' := ?_) #[true, true, false, false, false, false, false, false, false, false, false, false, false, false, false, false, false, false, false, false, false] rfl rfl (any_of HT_.out (by kernel_rfl)) (fun _ _ _ h => h) (Or.inl ⟨by rfl, ?_⟩) ?_ ?_
      rotate_left
      · intro w'
        go_simp
        with_reducible rfl
      rotate_left
      · simp only [Act.put, List.setIfInBounds_toArray, List.set_cons_zero, List.set_cons_succ, i64_w, i32_w]
        rfl
      refine pure_ (i := 2) (N := some 45) (v := ?_) (a' := ?_) #[true, true, true, false, false, false, false, false, false, false, false, false, false, false, false, false, false, false, false, false, false] rfl rfl (any_of HT_.out (by kernel_rfl)) (fun _ _ _ h => h) (Or.inl ⟨by rfl, ?_⟩) ?_ ?_
      rotate_left
      · intro w'
        go_simp
        with_reducible rfl
      rotate_left
      · simp only [Act.put, List.setIfInBounds_toArray, List.set_cons_zero, List.set_cons_succ, i64_w, i32_w]
        rfl
      refine take_ (i := 3) (N := some 46) (v := ?_) (a' := ?_) #[true, true, true, true, false, false, false, false, false, false, false, false, false, false, false, false, false, false, false, false, false] rfl rfl (take_ofW HT_.out HW_.out (by kernel_rfl)) (fun _ _ _ h => h) (Or.inl ⟨by rfl, ?_⟩) hHeld ?_ ?_
      rotate_left
      · rintro w' s0
        have p0 := (blk_cell s0.at0 (k * 12 + 0)).trans (HCS.out k _ (Nat.le_refl _) HLA.out 0 _ rfl); have p1 := (blk_cell s0.at0 (k * 12 + 1)).trans (HCS.out k _ (Nat.le_refl _) HLA.out 1 _ rfl); have p2 := (blk_cell s0.at0 (k * 12 + 2)).trans (HCS.out k _ (Nat.le_refl _) HLA.out 2 _ rfl); have p3 := (blk_cell s0.at0 (k * 12 + 3)).trans (HCS.out k _ (Nat.le_refl _) HLA.out 3 _ rfl); have p4 := (blk_cell s0.at0 (k * 12 + 4)).trans (HCS.out k _ (Nat.le_refl _) HLA.out 4 _ rfl); have p5 := (blk_cell s0.at0 (k * 12 + 5)).trans (HCS.out k _ (Nat.le_refl _) HLA.out 5 _ rfl); have p6 := (blk_cell s0.at0 (k * 12 + 6)).trans (HCS.out k _ (Nat.le_refl _) HLA.out 6 _ rfl); have p7 := (blk_cell s0.at0 (k * 12 + 7)).trans (HCS.out k _ (Nat.le_refl _) HLA.out 7 _ rfl); have p8 := (blk_cell s0.at0 (k * 12 + 8)).trans (HCS.out k _ (Nat.le_refl _) HLA.out 8 _ rfl); have p9 := (blk_cell s0.at0 (k * 12 + 9)).trans (HCS.out k _ (Nat.le_refl _) HLA.out 9 _ rfl); have p10 := (blk_cell s0.at0 (k * 12 + 10)).trans (HCS.out k _ (Nat.le_refl _) HLA.out 10 _ rfl); have p11 := (blk_cell s0.at0 (k * 12 + 11)).trans (HCS.out k _ (Nat.le_refl _) HLA.out 11 _ rfl); dsimp only at p0 p1 p2 p3 p4 p5 p6 p7 p8 p9 p10 p11; rw [Nat.add_zero] at p0
        go_simp
        with_reducible rfl
      rotate_left
      · simp only [Act.put, List.setIfInBounds_toArray, List.set_cons_zero, List.set_cons_succ, i64_w, i32_w]
        rfl
      refine pure_ (i := 4) (N := some 47) (v := ?_) (a' := ?_) #[true, true, true, true, true, false, false, false, false, false, false, false, false, false, false, false, false, false, false, false, false] rfl rfl (any_of HT_.out (by kernel_rfl)) (fun _ _ _ h => h) (Or.inl ⟨by rfl, ?_⟩) ?_ ?_
      rotate_left
      · intro w'
        go_simp
        with_reducible rfl
      rotate_left
      · simp only [Act.put, List.setIfInBounds_toArray, List.set_cons_zero, List.set_cons_succ, i64_w, i32_w]
        rfl
      refine pure_ (i := 5) (N := some 48) (v := ?_) (a' := ?_) #[true, true, true, true, true, true, false, false, false, false, false, false, false, false, false, false, false, false, false, false, false] rfl rfl (any_of HT_.out (by kernel_rfl)) (fun _ _ _ h => h) (Or.inl ⟨by rfl, ?_⟩) ?_ ?_
      rotate_left
      · intro w'
        go_simp
        with_reducible rfl
      rotate_left
      · simp only [Act.put, List.setIfInBounds_toArray, List.set_cons_zero, List.set_cons_succ, i64_w, i32_w]
        rfl
      refine pure_ (i := 6) (N := some 49) (v := ?_) (a' := ?_) #[true, true, true, true, true, true, true, false, false, false, false, false, false, false, false, false, false, false, false, false, false] rfl rfl (any_of HT_.out (by kernel_rfl)) (fun _ _ _ h => h) (Or.inl ⟨by rfl, ?_⟩) ?_ ?_
      rotate_left
      · intro w'
        go_simp
        with_reducible rfl
      rotate_left
      · simp only [Act.put, List.setIfInBounds_toArray, List.set_cons_zero, List.set_cons_succ, i64_w, i32_w]
        rfl
      refine pure_ (i := 7) (N := some 50) (v := ?_) (a' := ?_) #[true, true, true, true, true, true, true, true, false, false, false, false, false, false, false, false, false, false, false, false, false] rfl rfl (any_of HT_.out (by kernel_rfl)) (fun _ _ _ h => h) (Or.inl ⟨by rfl, ?_⟩) ?_ ?_
      rotate_left
      · intro w'
        go_simp
        with_reducible rfl
      rotate_left
      · simp only [Act.put, List.setIfInBounds_toArray, List.set_cons_zero, List.set_cons_succ, i64_w, i32_w]
        rfl
      refine take_ (i := 8) (N := some 51) (v := ?_) (a' := ?_) #[true, true, true, true, true, true, true, true, true, false, false, false, false, false, false, false, false, false, false, false, false] rfl rfl (take_ofW HT_.out HW_.out (by kernel_rfl)) (fun _ _ _ h => h) (Or.inl ⟨by rfl, ?_⟩) hHeld ?_ ?_
      rotate_left
      · rintro w' s0
        have p0 := ref_cell s0.r3 k _ HLC.out 2 _ rfl; have p1 := ref_cell s0.r3 k _ HLC.out 3 _ rfl; have p2 := ref_cell s0.r3 k _ HLC.out 4 _ rfl; have p3 := ref_cell s0.r3 k _ HLC.out 5 _ rfl; have p4 := ref_cell s0.r3 k _ HLC.out 6 _ rfl; have p5 := ref_cell s0.r3 k _ HLC.out 7 _ rfl; have p6 := ref_cell s0.r3 k _ HLC.out 8 _ rfl; have p7 := ref_cell s0.r3 k _ HLC.out 9 _ rfl; have p8 := ref_cell s0.r3 k _ HLC.out 10 _ rfl; have p9 := ref_cell s0.r3 k _ HLC.out 11 _ rfl; dsimp only at p0 p1 p2 p3 p4 p5 p6 p7 p8 p9
        go_simp
        with_reducible rfl
      rotate_left
      · simp only [Act.put, List.setIfInBounds_toArray, List.set_cons_zero, List.set_cons_succ, i64_w, i32_w]
        rfl
      refine pure_ (i := 9) (N := some 52) (v := ?_) (a' := ?_) #[true, true, true, true, true, true, true, true, true, true, false, false, false, false, false, false, false, false, false, false, false] rfl rfl (any_of HT_.out (by kernel_rfl)) (fun _ _ _ h => h) (Or.inl ⟨by rfl, ?_⟩) ?_ ?_
      rotate_left
      · intro w'
        go_simp
        with_reducible rfl
      rotate_left
      · simp only [Act.put, List.setIfInBounds_toArray, List.set_cons_zero, List.set_cons_succ, i64_w, i32_w]
        rfl
      refine pure_ (i := 10) (N := some 53) (v := ?_) (a' := ?_) #[true, true, true, true, true, true, true, true, true, true, true, false, false, false, false, false, false, false, false, false, false] rfl rfl (any_of HT_.out (by kernel_rfl)) (fun _ _ _ h => h) (Or.inl ⟨by rfl, ?_⟩) ?_ ?_
      rotate_left
      · intro w'
        go_simp
        with_reducible rfl
      rotate_left
      · simp only [Act.put, List.setIfInBounds_toArray, List.set_cons_zero, List.set_cons_succ, i64_w, i32_w]
        rfl
      refine pure_ (i := 11) (N := some 54) (v := ?_) (a' := ?_) #[true, true, true, true, true, true, true, true, true, true, true, true, false, false, false, false, false, false, false, false, false] rfl rfl (any_of HT_.out (by kernel_rfl)) (fun _ _ _ h => h) (Or.inl ⟨by rfl, ?_⟩) ?_ ?_
      rotate_left
      · intro w'
        go_simp
        with_reducible rfl
      rotate_left
      · simp only [Act.put, List.setIfInBounds_toArray, List.set_cons_zero, List.set_cons_succ, i64_w, i32_w]
        rfl
      refine pure_ (i := 12) (N := some 55) (v := ?_) (a' := ?_) #[true, true, true, true, true, true, true, true, true, true, true, true, true, false, false, false, false, false, false, false, false] rfl rfl (any_of HT_.out (by kernel_rfl)) (fun _ _ _ h => h) (Or.inl ⟨by rfl, ?_⟩) ?_ ?_
      rotate_left
      · intro w'
        go_simp
        with_reducible rfl
      rotate_left
      · simp only [Act.put, List.setIfInBounds_toArray, List.set_cons_zero, List.set_cons_succ, i64_w, i32_w]
        rfl
      refine take_ (i := 13) (N := some 56) (v := ?_) (a' := ?_) #[true, true, true, true, true, true, true, true, true, true, true, true, true, true, false, false, false, false, false, false, false] rfl rfl (take_ofW HT_.out HW_.out (by kernel_rfl)) (fun _ _ _ h => h) (Or.inl ⟨by rfl, ?_⟩) hHeld ?_ ?_
      rotate_left
      · rintro w' s0
        have p0 := ref_cell s0.r3 k _ HLC.out 12 _ rfl; dsimp only at p0
        go_simp
        with_reducible rfl
      rotate_left
      · simp only [Act.put, List.setIfInBounds_toArray, List.set_cons_zero, List.set_cons_succ, i64_w, i32_w]
        rfl
      refine pure_ (i := 14) (N := some 57) (v := ?_) (a' := ?_) #[true, true, true, true, true, true, true, true, true, true, true, true, true, true, true, false, false, false, false, false, false] rfl rfl (any_of HT_.out (by kernel_rfl)) (fun _ _ _ h => h) (Or.inl ⟨by rfl, ?_⟩) ?_ ?_
      rotate_left
      · intro w'
        go_simp
        with_reducible rfl
      rotate_left
      · simp only [Act.put, List.setIfInBounds_toArray, List.set_cons_zero, List.set_cons_succ, i64_w, i32_w]
        rfl
      refine pure_ (i := 15) (N := some 58) (v := ?_) (a' := ?_) #[true, true, true, true, true, true, true, true, true, true, true, true, true, true, true, true, false, false, false, false, false] rfl rfl (any_of HT_.out (by kernel_rfl)) (fun _ _ _ h => h) (Or.inl ⟨by rfl, ?_⟩) ?_ ?_
      rotate_left
      · intro w'
        go_simp
        with_reducible rfl
      rotate_left
      · simp only [Act.put, List.setIfInBounds_toArray, List.set_cons_zero, List.set_cons_succ, i64_w, i32_w]
        rfl
      refine pure_ (i := 16) (N := some 59) (v := ?_) (a' := ?_) #[true, true, true, true, true, true, true, true, true, true, true, true, true, true, true, true, true, false, false, false, false] rfl rfl (any_of HT_.out (by kernel_rfl)) (fun _ _ _ h => h) (Or.inl ⟨by rfl, ?_⟩) ?_ ?_
      rotate_left
      · intro w'
        go_simp
        with_reducible rfl
      rotate_left
      · simp only [Act.put, List.setIfInBounds_toArray, List.set_cons_zero, List.set_cons_succ, i64_w, i32_w]
        rfl
      refine pure_ (i := 17) (N := some 60) (v := ?_) (a' := ?_) #[true, true, true, true, true, true, true, true, true, true, true, true, true, true, true, true, true, true, false, false, false] rfl rfl (any_of HT_.out (by kernel_rfl)) (fun _ _ _ h => h) (Or.inl ⟨by rfl, ?_⟩) ?_ ?_
      rotate_left
      · intro w'
        go_simp
        with_reducible rfl
      rotate_left
      · simp only [Act.put, List.setIfInBounds_toArray, List.set_cons_zero, List.set_cons_succ, i64_w, i32_w]
        rfl
      refine take_ (i := 18) (N := some 61) (v := ?_) (a' := ?_) #[true, true, true, true, true, true, true, true, true, true, true, true, true, true, true, true, true, true, true, false, false] rfl rfl (take_ofW HT_.out HW_.out (by kernel_rfl)) (fun _ _ _ h => h) (Or.inl ⟨by rfl, ?_⟩) hHeld ?_ ?_
      rotate_left
      · rintro w' s0
        have p0 := ref_cell s0.r3 k _ HLC.out 13 _ rfl; dsimp only at p0
        go_simp
        with_reducible rfl
      rotate_left
      · simp only [Act.put, List.setIfInBounds_toArray, List.set_cons_zero, List.set_cons_succ, i64_w, i32_w]
        rfl
      refine pure_ (i := 19) (N := some 62) (v := ?_) (a' := ?_) #[true, true, true, true, true, true, true, true, true, true, true, true, true, true, true, true, true, true, true, true, false] rfl rfl (any_of HT_.out (by kernel_rfl)) (fun _ _ _ h => h) (Or.inl ⟨by rfl, ?_⟩) ?_ ?_
      rotate_left
      · intro w'
        go_simp
        with_reducible rfl
      rotate_left
      · simp only [Act.put, List.setIfInBounds_toArray, List.set_cons_zero, List.set_cons_succ, i64_w, i32_w]
        rfl
      refine pure_ (i := 20) (N := some 63) (v := ?_) (a' := ?_) #[true, true, true, true, true, true, true, true, true, true, true, true, true, true, true, true, true, true, true, true, true] rfl rfl (any_of HT_.out (by kernel_rfl)) (fun _ _ _ h => h) (Or.inl ⟨by rfl, ?_⟩) ?_ ?_
      rotate_left
      · intro w'
        go_simp
        with_reducible rfl
      rotate_left
      · simp only [Act.put, List.setIfInBounds_toArray, List.set_cons_zero, List.set_cons_succ, i64_w, i32_w]
        rfl
      have hfz := blk_frozen HW2.out.at0 (k * 12 + 10)
      have hce := (blk_cell HW2.out.at0 (k * 12 + 10)).trans (HCS.out k _ (Nat.le_refl _) HLA.out 10 _ rfl)
      dsimp only at hce
      refine done_ (done_of HT_.out (by kernel_rfl)) ?_
      go_wp2
      go_roundw
      case rel =>
        refine ⟨k + 1, _, by omega, by first | rfl | go_num, ⟨by rw [HL1.out]; exact HW2.out.set (k * 12 + 10) (.int .i64 99)⟩, ⟨fun _ => ⟨b1, _, rfl, rfl, fun j x hj hx i u hu => ?_⟩⟩⟩
        have hi : i < 12 := by simpa using (List.getElem?_eq_some_iff.1 hu).1
        rw [Array.getElem?_setIfInBounds_ne (by omega)]
        exact HCS.out j x (by omega) hx i u hu
      case measure => first | (simp [RowKit.intOf]; done) | (simp [RowKit.intOf]; omega)
    · have hk' : k = na := by omega
      subst hk'
      clear HX
      obtain ⟨L2, hL2⟩ : ∃ L : List Asn, L = X :: Row k58 58 (.slice A4 nb c4) ld :: Row k58 58 (.slice A n c) rows :: Row k58 58 (.slice A3 k c3) lc :: Tr g ss :: R := ⟨_, rfl⟩
      have HL2 := Aside0.mk hL2
      have H6 := Aside0.mk (show Own w0 wr (Row k48 48 (.slice A2 nb c2) lb :: L2) by have := HO.out; rw [HL1.out] at this; rw [hL2]; exact this.r4)
      clear hL2
      obtain ⟨wo, hwo⟩ : ∃ z, z = wr := ⟨_, rfl⟩
      rw [← hwo] at H6 ⊢
      clear hwo HO
      go_wp2
      go_loopw [12] (fun v12 wr => ∃ (k : Nat) (X : Asn), k ≤ nb ∧ v12 = .int .i64 k ∧ Aside0 (Own w0 wr (X :: L2)) ∧ Aside0 (k < nb → ∃ b cs, A2 = some ⟨b, 0, none⟩ ∧ X = Blk b (.cells cs 48 (0, 0)) ∧ ∀ j x, k ≤ j → lb[j]? = some x → ∀ i u, (appV x)[i]? = some u → cs[j * 9 + i]? = some u)) (fun v12 _ => nb - (RowKit.intOf v12).toNat)
      case atStart =>
        by_cases h0 : 0 < nb
        · obtain ⟨b1, e1⟩ := row_formA H6.out (by rw [N4.out]; exact h0)
          subst e1
          obtain ⟨cs, h1, h2⟩ := app_blk H6.out
          exact ⟨0, _, Nat.zero_le _, rfl, ⟨h1⟩, ⟨fun _ => ⟨_, cs, rfl, rfl, fun j x _ => h2 j x⟩⟩⟩
        · exact ⟨0, _, Nat.zero_le _, rfl, H6, ⟨fun q => absurd q h0⟩⟩
      case round =>
        obtain ⟨i1, Y, hk, rfl, HO, HX⟩ := hrel
        by_cases hlt : i1 < nb
        · obtain ⟨b1, cs, e1, e2, hcs⟩ := HX.out hlt
          subst e1
          subst e2
          have HCS := Aside0.mk hcs
          obtain ⟨y, hlc⟩ : ∃ y, ld[i1]? = some y := ⟨_, List.getElem?_eq_getElem (by rw [N2.out]; exact hlt)⟩
          have hla := G2.out i1 y hlc
          have HI := Aside0.mk (show Own w0 wr (Blk b1 (.cells cs 48 (0, 0)) :: X :: Row k58 58 (.slice A4 nb c4) ld :: Row k58 58 (.slice A n c) rows :: Row k58 58 (.slice A3 k c3) lc :: Tr g ss :: R) by rw [← HL2.out]; exact HO.out)
          obtain ⟨b3, e3⟩ := row_formA HI.out.r2 (by rw [N2.out]; omega)
          subst e3
          obtain ⟨p, tl, ⟨x0, x1, ⟨x2, x3, x4, x5, ⟨x6, x7, x8, x9⟩⟩⟩, nd, ep, ⟨t0, t1, t2, t3, t4, t5, t6, t7⟩, cd⟩ := y
          dsimp only [appOf] at hla
          have HLA := Aside0.mk hla
          have HLC := Aside0.mk hlc
          have hfa := add_at b1
          have hfb := add_at b3
          have hne := neqA t0 t1 t2 t3 t4 t5 t6 t7 cd
          clear hla hlc hcs
          have HW := Aside0.mk HI.out.drew
          go_wp2
          refine start_ (n := 16) (S := fun w' => Own w0 w' (Blk b1 (.cells cs 48 (0, 0)) :: X :: Row k58 58 (.slice (some ⟨b3, 0, none⟩) nb c4) ld :: Row k58 58 (.slice A n c) rows :: Row k58 58 (.slice A3 k c3) lc :: Tr g ss :: R)) (ds := []) #[false, false, false, false, false, false, false, false, false, false, false, false, false, false, false, false] (by kernel_rfl) rfl rfl HW.out (fun hHeld => ?_); refine with_tabW st14_tab st14_bits (fun HT_ HW_ => ?_)
          have HW2 := Aside0.mk hHeld
          clear HW
          generalize wr.drew = wd at HW2 hHeld ⊢
          refine pure_ (i := 0) (N := some 74) (v := ?_) (a' := ?_) #[true, false, false, false, false, false, false, false, false, false, false, false, false, false, false, false] rfl rfl (any_of HT_.out (by kernel_rfl)) (fun _ _ _ h => h) (Or.inl ⟨by rfl, ?_⟩) ?_ ?_
          rotate_left
          · intro w'
            go_simp
            with_reducible rfl
          rotate_left
          · simp only [Act.put, List.setIfInBounds_toArray, List.set_cons_zero, List.set_cons_succ, i64_w, i32_w]
            rfl
          refine pure_ (i := 1) (N := some 75) (v := ?_) (a' := ?_) #[true, true, false, false, false, false, false, false, false, false, false, false, false, false, false, false] rfl rfl (any_of HT_.out (by kernel_rfl)) (fun _ _ _ h => h) (Or.inl ⟨by rfl, ?_⟩) ?_ ?_
          rotate_left
          · intro w'
            go_simp
            with_reducible rfl
          rotate_left
          · simp only [Act.put, List.setIfInBounds_toArray, List.set_cons_zero, List.set_cons_succ, i64_w, i32_w]
            rfl
          refine pure_ (i := 2) (N := some 76) (v := ?_) (a' := ?_) #[true, true, true, false, false, false, false, false, false, false, false, false, false, false, false, false] rfl rfl (any_of HT_.out (by kernel_rfl)) (fun _ _ _ h => h) (Or.inl ⟨by rfl, ?_⟩) ?_ ?_
          rotate_left
          · intro w'
            go_simp
            with_reducible rfl
          rotate_left
          · simp only [Act.put, List.setIfInBounds_toArray, List.set_cons_zero, List.set_cons_succ, i64_w, i32_w]
            rfl
          refine take_ (i := 3) (N := some 77) (v := ?_) (a' := ?_) #[true, true, true, true, false, false, false, false, false, false, false, false, false, false, false, false] rfl rfl (take_ofW HT_.out HW_.out (by kernel_rfl)) (fun _ _ _ h => h) (Or.inl ⟨by rfl, ?_⟩) hHeld ?_ ?_
          rotate_left
          · rintro w' s0
            have p0 := (blk_cell s0.at0 (i1 * 9 + 0)).trans (HCS.out i1 _ (Nat.le_refl _) HLA.out 0 _ rfl); have p1 := (blk_cell s0.at0 (i1 * 9 + 1)).trans (HCS.out i1 _ (Nat.le_refl _) HLA.out 1 _ rfl); have p2 := (blk_cell s0.at0 (i1 * 9 + 2)).trans (HCS.out i1 _ (Nat.le_refl _) HLA.out 2 _ rfl); have p3 := (blk_cell s0.at0 (i1 * 9 + 3)).trans (HCS.out i1 _ (Nat.le_refl _) HLA.out 3 _ rfl); have p4 := (blk_cell s0.at0 (i1 * 9 + 4)).trans (HCS.out i1 _ (Nat.le_refl _) HLA.out 4 _ rfl); have p5 := (blk_cell s0.at0 (i1 * 9 + 5)).trans (HCS.out i1 _ (Nat.le_refl _) HLA.out 5 _ rfl); have p6 := (blk_cell s0.at0 (i1 * 9 + 6)).trans (HCS.out i1 _ (Nat.le_refl _) HLA.out 6 _ rfl); have p7 := (blk_cell s0.at0 (i1 * 9 + 7)).trans (HCS.out i1 _ (Nat.le_refl _) HLA.out 7 _ rfl); have p8 := (blk_cell s0.at0 (i1 * 9 + 8)).trans (HCS.out i1 _ (Nat.le_refl _) HLA.out 8 _ rfl); dsimp only at p0 p1 p2 p3 p4 p5 p6 p7 p8; rw [Nat.add_zero] at p0
            go_simp
            with_reducible rfl
          rotate_left
          · simp only [Act.put, List.setIfInBounds_toArray, List.set_cons_zero, List.set_cons_succ, i64_w, i32_w]
            rfl
          refine pure_ (i := 4) (N := some 78) (v := ?_) (a' := ?_) #[true, true, true, true, true, false, false, false, false, false, false, false, false, false, false, false] rfl rfl (any_of HT_.out (by kernel_rfl)) (fun _ _ _ h => h) (Or.inl ⟨by rfl, ?_⟩) ?_ ?_
          rotate_left
          · intro w'
            go_simp
            with_reducible rfl
          rotate_left
          · simp only [Act.put, List.setIfInBounds_toArray, List.set_cons_zero, List.set_cons_succ, i64_w, i32_w]
            rfl
          refine pure_ (i := 5) (N := some 79) (v := ?_) (a' := ?_) #[true, true, true, true, true, true, false, false, false, false, false, false, false, false, false, false] rfl rfl (any_of HT_.out (by kernel_rfl)) (fun _ _ _ h => h) (Or.inl ⟨by rfl, ?_⟩) ?_ ?_
          rotate_left
          · intro w'
            go_simp
            with_reducible rfl
          rotate_left
          · simp only [Act.put, List.setIfInBounds_toArray, List.set_cons_zero, List.set_cons_succ, i64_w, i32_w]
            rfl
          refine pure_ (i := 6) (N := some 80) (v := ?_) (a' := ?_) #[true, true, true, true, true, true, true, false, false, false, false, false, false, false, false, false] rfl rfl (any_of HT_.out (by kernel_rfl)) (fun _ _ _ h => h) (Or.inl ⟨by rfl, ?_⟩) ?_ ?_
          rotate_left
          · intro w'
            go_simp
            with_reducible rfl
          rotate_left
          · simp only [Act.put, List.setIfInBounds_toArray, List.set_cons_zero, List.set_cons_succ, i64_w, i32_w]
            rfl
          refine pure_ (i := 7) (N := some 81) (v := ?_) (a' := ?_) #[true, true, true, true, true, true, true, true, false, false, false, false, false, false, false, false] rfl rfl (any_of HT_.out (by kernel_rfl)) (fun _ _ _ h => h) (Or.inl ⟨by rfl, ?_⟩) ?_ ?_
          rotate_left
          · intro w'
            go_simp
            with_reducible rfl
          rotate_left
          · simp only [Act.put, List.setIfInBounds_toArray, List.set_cons_zero, List.set_cons_succ, i64_w, i32_w]
            rfl
          refine take_ (i := 8) (N := some 82) (v := ?_) (a' := ?_) #[true, true, true, true, true, true, true, true, true, false, false, false, false, false, false, false] rfl rfl (take_ofW HT_.out HW_.out (by kernel_rfl)) (fun _ _ _ h => h) (Or.inl ⟨by rfl, ?_⟩) hHeld ?_ ?_
          rotate_left
          · rintro w' s0
            have p0 := ref_cell s0.r2 i1 _ HLC.out 14 _ rfl; have p1 := ref_cell s0.r2 i1 _ HLC.out 15 _ rfl; have p2 := ref_cell s0.r2 i1 _ HLC.out 16 _ rfl; have p3 := ref_cell s0.r2 i1 _ HLC.out 17 _ rfl; have p4 := ref_cell s0.r2 i1 _ HLC.out 18 _ rfl; have p5 := ref_cell s0.r2 i1 _ HLC.out 19 _ rfl; have p6 := ref_cell s0.r2 i1 _ HLC.out 20 _ rfl; have p7 := ref_cell s0.r2 i1 _ HLC.out 21 _ rfl; dsimp only at p0 p1 p2 p3 p4 p5 p6 p7
            go_simp
            with_reducible rfl
          rotate_left
          · simp only [Act.put, List.setIfInBounds_toArray, List.set_cons_zero, List.set_cons_succ, i64_w, i32_w]
            rfl
          refine pure_ (i := 9) (N := some 83) (v := ?_) (a' := ?_) #[true, true, true, true, true, true, true, true, true, true, false, false, false, false, false, false] rfl rfl (any_of HT_.out (by kernel_rfl)) (fun _ _ _ h => h) (Or.inl ⟨by rfl, ?_⟩) ?_ ?_
          rotate_left
          · intro w'
            go_simp
            with_reducible rfl
          rotate_left
          · simp only [Act.put, List.setIfInBounds_toArray, List.set_cons_zero, List.set_cons_succ, i64_w, i32_w]
            rfl
          refine pure_ (i := 10) (N := some 84) (v := ?_) (a' := ?_) #[true, true, true, true, true, true, true, true, true, true, true, false, false, false, false, false] rfl rfl (any_of HT_.out (by kernel_rfl)) (fun _ _ _ h => h) (Or.inl ⟨by rfl, ?_⟩) ?_ ?_
          rotate_left
          · intro w'
            go_simp
            with_reducible rfl
          rotate_left
          · simp only [Act.put, List.setIfInBounds_toArray, List.set_cons_zero, List.set_cons_succ, i64_w, i32_w]
            rfl
          refine pure_ (i := 11) (N := some 85) (v := ?_) (a' := ?_) #[true, true, true, true, true, true, true, true, true, true, true, true, false, false, false, false] rfl rfl (any_of HT_.out (by kernel_rfl)) (fun _ _ _ h => h) (Or.inl ⟨by rfl, ?_⟩) ?_ ?_
          rotate_left
          · intro w'
            go_simp
            with_reducible rfl
          rotate_left
          · simp only [Act.put, List.setIfInBounds_toArray, List.set_cons_zero, List.set_cons_succ, i64_w, i32_w]
            rfl
          refine pure_ (i := 12) (N := some 86) (v := ?_) (a' := ?_) #[true, true, true, true, true, true, true, true, true, true, true, true, true, false, false, false] rfl rfl (any_of HT_.out (by kernel_rfl)) (fun _ _ _ h => h) (Or.inl ⟨by rfl, ?_⟩) ?_ ?_
          rotate_left
          · intro w'
            go_simp
            with_reducible rfl
          rotate_left
          · simp only [Act.put, List.setIfInBounds_toArray, List.set_cons_zero, List.set_cons_succ, i64_w, i32_w]
            rfl
          refine take_ (i := 13) (N := some 87) (v := ?_) (a' := ?_) #[true, true, true, true, true, true, true, true, true, true, true, true, true, true, false, false] rfl rfl (take_ofW HT_.out HW_.out (by kernel_rfl)) (fun _ _ _ h => h) (Or.inl ⟨by rfl, ?_⟩) hHeld ?_ ?_
          rotate_left
          · rintro w' s0
            have p0 := ref_cell s0.r2 i1 _ HLC.out 22 _ rfl; dsimp only at p0
            go_simp
            with_reducible rfl
          rotate_left
          · simp only [Act.put, List.setIfInBounds_toArray, List.set_cons_zero, List.set_cons_succ, i64_w, i32_w]
            rfl
          refine pure_ (i := 14) (N := some 88) (v := ?_) (a' := ?_) #[true, true, true, true, true, true, true, true, true, true, true, true, true, true, true, false] rfl rfl (any_of HT_.out (by kernel_rfl)) (fun _ _ _ h => h) (Or.inl ⟨by rfl, ?_⟩) ?_ ?_
          rotate_left
          · intro w'
            go_simp
            with_reducible rfl
          rotate_left
          · simp only [Act.put, List.setIfInBounds_toArray, List.set_cons_zero, List.set_cons_succ, i64_w, i32_w]
            rfl
          refine pure_ (i := 15) (N := some 89) (v := ?_) (a' := ?_) #[true, true, true, true, true, true, true, true, true, true, true, true, true, true, true, true] rfl rfl (any_of HT_.out (by kernel_rfl)) (fun _ _ _ h => h) (Or.inl ⟨by rfl, ?_⟩) ?_ ?_
          rotate_left
          · intro w'
            go_simp
            with_reducible rfl
          rotate_left
          · simp only [Act.put, List.setIfInBounds_toArray, List.set_cons_zero, List.set_cons_succ, i64_w, i32_w]
            rfl
          have hfz := blk_frozen HW2.out.at0 (i1 * 9 + 8)
          have hce := (blk_cell HW2.out.at0 (i1 * 9 + 8)).trans (HCS.out i1 _ (Nat.le_refl _) HLA.out 8 _ rfl)
          dsimp only at hce
          refine done_ (done_of HT_.out (by kernel_rfl)) ?_
          go_wp2
          go_roundw
          case rel =>
            refine ⟨i1 + 1, _, by omega, by first | rfl | go_num, ⟨by rw [HL2.out]; exact HW2.out.set (i1 * 9 + 8) (.int .i64 99)⟩, ⟨fun _ => ⟨b1, _, rfl, rfl, fun j x hj hx i u hu => ?_⟩⟩⟩
            have hi : i < 9 := by simpa using (List.getElem?_eq_some_iff.1 hu).1
            rw [Array.getElem?_setIfInBounds_ne (by omega)]
            exact HCS.out j x (by omega) hx i u hu
          case measure => first | (simp [RowKit.intOf]; done) | (simp [RowKit.intOf]; omega)
        · have hk' : i1 = nb := by omega
          subst hk'
          clear HX
          have h7 := HO.out
          rw [HL2.out] at h7
          have H7 := Aside0.mk (h7.r5.r4.r1.r2.tail.r2.tail.r2.tail.r2.tail)
          clear h7
          go_wp2
          go_ret
          exact ⟨rfl, H7.out⟩
end
end Go.Proofs.Ytglccegihffndaa.PTracePlays
