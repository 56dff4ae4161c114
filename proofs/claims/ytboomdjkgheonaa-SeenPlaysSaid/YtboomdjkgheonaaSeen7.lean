/- Items that were seen (package seen): All, Twin. -/
import Derived.Test.YtboomdjkgheonaaSeen6
namespace Go.Proofs.Ytboomdjkgheonaa.PSeenPlays
open Go.RowKit Go.Proofs.YtboomdjkgheonaaW.PrintWords Go.Proofs.YtboomdjkgheonaaW.PrintLast Go.Proofs.YtboomdjkgheonaaW.PrintMore
open Go.Proofs.YtboomdjkgheonaaO
open Go.Maps Go.Sort Go.Shelf
attribute [local go_sem] max2_int min2_int max_two min_two max_three min_three max_four min_four
set_option linter.unusedVariables false
set_option linter.unusedSimpArgs false
section
variable {w0 w w' : World} {R : List Asn} {g N b : Nat} {at' : Int → Option Int} {lo : Nat → Int} {co : Nat → Int → Option Int} {P1 P2 P3 P4 P5 P6 P7 P8 P9 P10 : Asn}
theorem _root_.Go.Proofs.YtboomdjkgheonaaO.Own.r6 (h : Own w0 w (P1 :: P2 :: P3 :: P4 :: P5 :: P6 :: P7 :: R)) : Own w0 w (P7 :: P1 :: P2 :: P3 :: P4 :: P5 :: P6 :: R) := h.perm (List.perm_middle (l₁ := [P1, P2, P3, P4, P5, P6]))
theorem _root_.Go.Proofs.YtboomdjkgheonaaO.Own.r7 (h : Own w0 w (P1 :: P2 :: P3 :: P4 :: P5 :: P6 :: P7 :: P8 :: R)) : Own w0 w (P8 :: P1 :: P2 :: P3 :: P4 :: P5 :: P6 :: P7 :: R) := h.perm (List.perm_middle (l₁ := [P1, P2, P3, P4, P5, P6, P7]))
theorem _root_.Go.Proofs.YtboomdjkgheonaaO.Own.r8 (h : Own w0 w (P1 :: P2 :: P3 :: P4 :: P5 :: P6 :: P7 :: P8 :: P9 :: R)) : Own w0 w (P9 :: P1 :: P2 :: P3 :: P4 :: P5 :: P6 :: P7 :: P8 :: R) := h.perm (List.perm_middle (l₁ := [P1, P2, P3, P4, P5, P6, P7, P8]))
theorem _root_.Go.Proofs.YtboomdjkgheonaaO.Own.r9 (h : Own w0 w (P1 :: P2 :: P3 :: P4 :: P5 :: P6 :: P7 :: P8 :: P9 :: P10 :: R)) : Own w0 w (P10 :: P1 :: P2 :: P3 :: P4 :: P5 :: P6 :: P7 :: P8 :: P9 :: R) := h.perm (List.perm_middle (l₁ := [P1, P2, P3, P4, P5, P6, P7, P8, P9]))
theorem ix_0 (b0 b1 b2 b3 : Nat) (W : World) : (Instr.index 58 (.agg #[.map (some b0), .map (some b1), .map (some b2), .map (some b3)]) (.int .i64 0)).run Try.prog W = .ok (.map (some b0)) W := by kernel_rfl
theorem ix_1 (b0 b1 b2 b3 : Nat) (W : World) : (Instr.index 58 (.agg #[.map (some b0), .map (some b1), .map (some b2), .map (some b3)]) (.int .i64 1)).run Try.prog W = .ok (.map (some b1)) W := by kernel_rfl
theorem ix_2 (b0 b1 b2 b3 : Nat) (W : World) : (Instr.index 58 (.agg #[.map (some b0), .map (some b1), .map (some b2), .map (some b3)]) (.int .i64 2)).run Try.prog W = .ok (.map (some b2)) W := by kernel_rfl
theorem ix_3 (b0 b1 b2 b3 : Nat) (W : World) : (Instr.index 58 (.agg #[.map (some b0), .map (some b1), .map (some b2), .map (some b3)]) (.int .i64 3)).run Try.prog W = .ok (.map (some b3)) W := by kernel_rfl
def srcL (j : Int) (at' : Int → Option Int) (M : List Int) : List S33 := M.map fun k => ⟨j, k, (at' k).getD 0⟩
/-- All codes, source by source. -/
def allP (co : Nat → Int → Option Int) (Ms : Nat → List Int) : Nat → List S33
  | 0 => []
  | j + 1 => allP co Ms j ++ srcL j (co j) (Ms j)
theorem int_klen (h : Own w0 w (IntM b N at' :: R)) {M : List Int} (hM : KeysIs at' M) : M.length ≤ N := by
  obtain ⟨M', hM', D, hown, hperm⟩ := int_keys h
  obtain rfl := hM.uniq hM'
  have := hown.size_le
  have e := hperm.length_eq
  obtain ⟨es, rfl, _⟩ := hown.keysOf
  have : (intKeys (DataW.map es)).length = es.length := by show (es.map _).length = _; rw [List.length_map]
  rw [e, this]
  exact hown.size_le
theorem srcL_take (j : Int) (M : List Int) (k : Nat) (x : Int) (hx : M[k]? = some x) : (srcL j at' M).take (k + 1) = (srcL j at' M).take k ++ [⟨j, x, (at' x).getD 0⟩] := by
  obtain ⟨hk, rfl⟩ := List.getElem?_eq_some_iff.1 hx
  have hk2 : k < (srcL j at' M).length := by unfold srcL; rw [List.length_map]; exact hk
  rw [List.take_succ_eq_append_getElem hk2]
  congr 2
  simp [srcL]
theorem srcL_len (j : Int) (M : List Int) : (srcL j at' M).length = M.length := by unfold srcL; rw [List.length_map]
theorem mclone_calls (h : Own w0 w (IntM b N at' :: R)) : Calls Try.prog 29 #[.map (some b)] w fun e w' => ∃ b', e = .returned (.map (some b')) ∧ Own w0 w' (IntM b' N at' :: IntM b N at' :: R) := by
  obtain ⟨D, ho, hd⟩ := int_out h
  have hc : Calls Try.prog 29 #[.map (some b)] w (fun e w' => e = .returned (.map (some w.heap.size)) ∧ w'.ownsMap Try.prog 3 (plainElem (H := Unit) Try.prog 3) w.heap.size N D ∧ w'.ownsMap Try.prog 3 (plainElem (H := Unit) Try.prog 3) b N D ∧ Below w.heap.size w w') := AnyW.maps_Clone_owns Try.cloneA _ _ b N D w ho
  refine hc.mono fun e w' ⟨he, h1, _, hb⟩ => ⟨_, he, h.make hb ⟨fun k => k = w.heap.size, ⟨⟨D, h1, hd⟩, fun k => Iff.rfl⟩, fun k hk => by omega⟩⟩
set_option maxHeartbeats 4000000 in
set_option maxRecDepth 100000 in
theorem SeenTwin (h : Own w0 w (SeenA g N lo co :: R)) : Calls Try.prog 15 #[.pointer (some ⟨g, 0, none⟩)] w fun e w' => ∃ g', e = .returned (.pointer (some ⟨g', 0, none⟩)) ∧ Own w0 w' (SeenA g' N lo co :: SeenA g N lo co :: R) := by
  obtain ⟨b0, b1, b2, b3, h1⟩ := seen_open h
  have y0 := (blk_cell h1.at0 0).trans rfl
  have y1 := (blk_cell h1.at0 1).trans rfl
  have y2 := (blk_cell h1.at0 2).trans rfl
  have y3 := (blk_cell h1.at0 3).trans rfl
  have y4 := (blk_cell h1.at0 4).trans rfl
  have y5 := (blk_cell h1.at0 5).trans rfl
  have y6 := (blk_cell h1.at0 6).trans rfl
  have y7 := (blk_cell h1.at0 7).trans rfl
  have H0 := Aside0.mk (h1.alloc (.cells #[.int .i64 (lo 0), .int .i64 (lo 1), .int .i64 (lo 2), .int .i64 (lo 3), .map (some b0), .map (some b1), .map (some b2), .map (some b3)] 60))
  clear h h1
  go_enter Try.func15, Try.ntmps15
  go_wp2
  refine wp_loop_rounds 5 ?_
  rw [rounds_succ]
  go_wp2_with (go_at_call 29; (with_reducible refine (mclone_calls H0.out.r2).mono ?_); rintro e w2 ⟨c0, rfl, h⟩; have h2 := h.r2; have f := blk_frozen h2.at0 4; have z := (blk_cell h2.at0 4).trans rfl; have H1 := Aside0.mk (h2.set 4 (.map (some c0))); have z2 := (blk_cell H1.out.at0 5).trans rfl; clear h h2)
  rw [rounds_succ]
  go_wp2_with (go_at_call 29; (with_reducible refine (mclone_calls H1.out.r4).mono ?_); rintro e w3 ⟨c1, rfl, h⟩; have h2 := h.r2; have f := blk_frozen h2.at0 5; have z := (blk_cell h2.at0 5).trans rfl; have H2 := Aside0.mk (h2.set 5 (.map (some c1))); have z2 := (blk_cell H2.out.at0 6).trans rfl; clear h h2)
  rw [rounds_succ]
  go_wp2_with (go_at_call 29; (with_reducible refine (mclone_calls H2.out.r6).mono ?_); rintro e w4 ⟨c2, rfl, h⟩; have h2 := h.r2; have f := blk_frozen h2.at0 6; have z := (blk_cell h2.at0 6).trans rfl; have H3 := Aside0.mk (h2.set 6 (.map (some c2))); have z2 := (blk_cell H3.out.at0 7).trans rfl; clear h h2)
  rw [rounds_succ]
  go_wp2_with (go_at_call 29; (with_reducible refine (mclone_calls H3.out.r8).mono ?_); rintro e w5 ⟨c3, rfl, h⟩; have h2 := h.r2; have f := blk_frozen h2.at0 7; have z := (blk_cell h2.at0 7).trans rfl; have H4 := Aside0.mk (h2.set 7 (.map (some c3))); clear h h2)
  rw [rounds_succ]
  go_wp2
  go_ret
  exact ⟨_, rfl, seen_shut (seen_shut H4.out.r2.r4.r6.r8.r9).r2.r3.r4.r5.r5⟩
theorem seen_shut2 {P1 : Asn} {b0 b1 b2 b3 : Nat} (h : Own w0 w (P1 :: Blk g (.cells #[.int .i64 (lo 0), .int .i64 (lo 1), .int .i64 (lo 2), .int .i64 (lo 3), .map (some b0), .map (some b1), .map (some b2), .map (some b3)] 60 (0, 0)) :: IntM b0 N (co 0) :: IntM b1 N (co 1) :: IntM b2 N (co 2) :: IntM b3 N (co 3) :: R)) : Own w0 w (P1 :: SeenA g N lo co :: R) := (seen_shut h.r5.r5.r5.r5.r5).r1
set_option maxHeartbeats 4000000 in
set_option maxRecDepth 100000 in
theorem SeenAll (h : Own w0 w (SeenA g N lo co :: R)) (hN : N ≤ 1000000000) (Ms : Nat → List Int) (hM : ∀ j, j < 4 → KeysIs (co j) (Ms j)) : Calls Try.prog 14 #[.pointer (some ⟨g, 0, none⟩)] w fun e w' => ∃ A c, e = .returned (.slice A (allP co Ms 4).length c) ∧ Own w0 w' (Row k33 33 (.slice A (allP co Ms 4).length c) (allP co Ms 4) :: SeenA g N lo co :: R) := by
  obtain ⟨b0, b1, b2, b3, h1⟩ := seen_open h
  have y4 := (blk_cell h1.at0 4).trans rfl
  have y5 := (blk_cell h1.at0 5).trans rfl
  have y6 := (blk_cell h1.at0 6).trans rfl
  have y7 := (blk_cell h1.at0 7).trans rfl
  have hl : ∀ j, j < 4 → (Ms j).length ≤ N := fun j hj => by
    rcases (show j = 0 ∨ j = 1 ∨ j = 2 ∨ j = 3 by omega) with rfl | rfl | rfl | rfl
    · exact int_klen h1.r1 (hM 0 hj)
    · exact int_klen h1.r2 (hM 1 hj)
    · exact int_klen h1.r3 (hM 2 hj)
    · exact int_klen h1.r4 (hM 3 hj)
  have hla : ∀ j, j ≤ 4 → (allP co Ms j).length ≤ j * N := fun j => by
    induction j with
    | zero => intro _; simp [allP]
    | succ j ih =>
      intro hj
      have h1 := ih (by omega)
      have h2 := hl j (by omega)
      rw [allP, List.length_append, srcL_len, Nat.succ_mul]
      omega
  have HL := Aside0.mk hl
  have HLA := Aside0.mk hla
  have HM := Aside0.mk hM
  have HN := Aside0.mk hN
  have H := Aside0.mk (h1.row_nil k33 33)
  clear h h1 hl hla hM
  go_enter Try.func14, Try.ntmps14
  go_wp2
  clear y4 y5 y6 y7
  go_loopw [3, 14] (fun v3 v14 wr => ∃ (i : Nat) (A : Option Addr) (c : Nat), (i = 0 ∧ v14 = .int .i64 0 ∨ i = 1 ∧ v14 = .int .i64 1 ∨ i = 2 ∧ v14 = .int .i64 2 ∨ i = 3 ∧ v14 = .int .i64 3 ∨ i = 4 ∧ v14 = .int .i64 4) ∧ v3 = .slice A (allP co Ms i).length c ∧ Aside0 (Own w0 wr (Row k33 33 (.slice A (allP co Ms i).length c) (allP co Ms i) :: Blk g (.cells #[.int .i64 (lo 0), .int .i64 (lo 1), .int .i64 (lo 2), .int .i64 (lo 3), .map (some b0), .map (some b1), .map (some b2), .map (some b3)] 60 (0, 0)) :: IntM b0 N (co 0) :: IntM b1 N (co 1) :: IntM b2 N (co 2) :: IntM b3 N (co 3) :: R))) (fun _ v14 _ => 4 - (RowKit.intOf v14).toNat)
  case atStart => exact ⟨0, none, 0, .inl ⟨rfl, rfl⟩, rfl, H⟩
  case round =>
    obtain ⟨i, A, c, hi, rfl, HO⟩ := hrel
    rcases hi with ⟨rfl, rfl⟩ | ⟨rfl, rfl⟩ | ⟨rfl, rfl⟩ | ⟨rfl, rfl⟩ | ⟨rfl, rfl⟩
    · have hix := ix_0 b0 b1 b2 b3
      have HM0 := Aside0.mk (HM.out 0 (by decide))
      have HL0 := HL.out 0 (by decide)
      have hz0 : (allP co Ms 0).length ≤ 0 * N := HLA.out 0 (by decide)
      have hz1 : allP co Ms (0 + 1) = allP co Ms 0 ++ srcL 0 (co 0) (Ms 0) := rfl
      obtain ⟨M, hMM⟩ : ∃ M, M = Ms 0 := ⟨_, rfl⟩
      rw [← hMM] at HM0 HL0 hz1
      obtain ⟨ys, hys⟩ : ∃ ys, ys = allP co Ms 0 := ⟨_, rfl⟩
      rw [← hys] at HO hz0 hz1 ⊢
      have HZ1 := Lib.hid hz1
      clear hMM hys hz1
      go_wp2_with (first
        | (go_at_call 28; (with_reducible refine (keys_calls _ _).mono ?_); rintro e w2 ⟨rfl, rfl⟩)
        | (go_at_call 27; (with_reducible refine (sorted_calls HO.out.r2 HN.out M HM0.out).mono ?_); rintro e w3 ⟨B, d, rfl, h⟩; have H3 := Aside0.mk h; clear h))
      clear hix
      rename World => wo
      go_loopw [3, 22] (fun v3 v22 wr => ∃ (k : Nat) (A : Option Addr) (c : Nat), k ≤ M.length ∧ v22 = .int .i64 k ∧ v3 = .slice A (ys ++ (srcL 0 (co 0) M).take k).length c ∧ Aside0 (Own w0 wr (Row k33 33 (.slice A (ys ++ (srcL 0 (co 0) M).take k).length c) (ys ++ (srcL 0 (co 0) M).take k) :: Row (Kd.int .i64) 3 (.slice B M.length d) M :: IntM b0 N (co 0) :: Blk g (.cells #[.int .i64 (lo 0), .int .i64 (lo 1), .int .i64 (lo 2), .int .i64 (lo 3), .map (some b0), .map (some b1), .map (some b2), .map (some b3)] 60 (0, 0)) :: IntM b1 N (co 1) :: IntM b2 N (co 2) :: IntM b3 N (co 3) :: R))) (fun _ v22 _ => M.length - (RowKit.intOf v22).toNat)
      case atStart => exact ⟨0, A, c, Nat.zero_le _, rfl, by simp, ⟨by simpa using H3.out.r2⟩⟩
      case round =>
        obtain ⟨k, A2, c2, hk, rfl, rfl, HO2⟩ := hrel
        by_cases hlt : k < M.length
        · have hgk := List.getElem?_eq_getElem hlt
          obtain ⟨x, hx⟩ : ∃ x, M[k] = x := ⟨_, rfl⟩
          rw [hx] at hgk
          have HT := Lib.hid (show ys ++ (srcL 0 (co 0) M).take (k + 1) = (ys ++ (srcL 0 (co 0) M).take k) ++ [⟨0, x, ((co 0) x).getD 0⟩] by rw [srcL_take _ M k x hgk, List.append_assoc])
          have hzl : (ys ++ (srcL 0 (co 0) M).take k).length ≤ ys.length + k := by rw [List.length_append, List.length_take]; omega
          obtain ⟨zs, hzs⟩ : ∃ zs, zs = ys ++ (srcL 0 (co 0) M).take k := ⟨_, rfl⟩
          rw [← hzs] at HO2 HT hzl ⊢
          obtain ⟨ab, rfl, hcell⟩ := own_int_at HO2.out.r1 k x hgk
          have hxw : wfI x := by
            obtain ⟨D, _, hd⟩ := int_out HO2.out.r2
            exact hd.wf x ((HM0.out.2 x).1 (List.mem_of_getElem? hgk))
          have hlk := int_look HO2.out.r2 x hxw
          obtain ⟨u, hu⟩ : ∃ u, u = ((co 0) x).getD 0 := ⟨_, rfl⟩
          rw [← hu] at hlk HT
          clear hgk hx hzs hxw hu
          go_wp2_with ((with_reducible refine gate_builtin (b := .append) (xs := #[.tmp 26, .tmp 33]) rfl ?_); at_builtin; refine Own.append k33 rfl (.tmp 26) (.tmp 33) 34 33 (.agg #[.int .i64 0, .int .i64 0, .int .i64 0]) 24 rfl Try.underlying34 info33 rfl (by decide) (by omega) (.slice A2 zs.length c2) zs ⟨0, x, u⟩ [.int .i64 0, .int .i64 x, .int .i64 u] rfl rfl (fun _ => k33_mkM _ _ _ _) HO2.out (by omega) ?_; intro A3 c3 w5 h5; have H5 := Aside0.mk h5; clear h5)
          go_roundw
          case rel => exact ⟨k + 1, A3, c3, by omega, by first | rfl | go_num, by rw [HT.out, List.length_append]; rfl, ⟨by rw [HT.out, List.length_append]; exact H5.out⟩⟩
          case measure => first | (simp [RowKit.intOf]; done) | (simp [RowKit.intOf]; omega)
        · obtain rfl : k = M.length := by omega
          have HE := Lib.hid (show ys ++ (srcL 0 (co 0) M).take M.length = allP co Ms (0 + 1) by rw [HZ1.out, List.take_of_length_le (by rw [srcL_len]; exact Nat.le_refl _)])
          rw [HE.out] at HO2 ⊢
          go_wp2
          go_roundw
          case rel => exact ⟨1, A2, c2, .inr (.inl ⟨rfl, rfl⟩), rfl, ⟨HO2.out.r1.tail.r1.r2.r2⟩⟩
          case measure => first | (simp [RowKit.intOf]; done) | (simp [RowKit.intOf]; omega)
    · have hix := ix_1 b0 b1 b2 b3
      have HM0 := Aside0.mk (HM.out 1 (by decide))
      have HL0 := HL.out 1 (by decide)
      have hz0 : (allP co Ms 1).length ≤ 1 * N := HLA.out 1 (by decide)
      have hz1 : allP co Ms (1 + 1) = allP co Ms 1 ++ srcL 1 (co 1) (Ms 1) := rfl
      obtain ⟨M, hMM⟩ : ∃ M, M = Ms 1 := ⟨_, rfl⟩
      rw [← hMM] at HM0 HL0 hz1
      obtain ⟨ys, hys⟩ : ∃ ys, ys = allP co Ms 1 := ⟨_, rfl⟩
      rw [← hys] at HO hz0 hz1 ⊢
      have HZ1 := Lib.hid hz1
      clear hMM hys hz1
      go_wp2_with (first
        | (go_at_call 28; (with_reducible refine (keys_calls _ _).mono ?_); rintro e w2 ⟨rfl, rfl⟩)
        | (go_at_call 27; (with_reducible refine (sorted_calls HO.out.r3 HN.out M HM0.out).mono ?_); rintro e w3 ⟨B, d, rfl, h⟩; have H3 := Aside0.mk h; clear h))
      clear hix
      rename World => wo
      go_loopw [3, 22] (fun v3 v22 wr => ∃ (k : Nat) (A : Option Addr) (c : Nat), k ≤ M.length ∧ v22 = .int .i64 k ∧ v3 = .slice A (ys ++ (srcL 1 (co 1) M).take k).length c ∧ Aside0 (Own w0 wr (Row k33 33 (.slice A (ys ++ (srcL 1 (co 1) M).take k).length c) (ys ++ (srcL 1 (co 1) M).take k) :: Row (Kd.int .i64) 3 (.slice B M.length d) M :: IntM b1 N (co 1) :: Blk g (.cells #[.int .i64 (lo 0), .int .i64 (lo 1), .int .i64 (lo 2), .int .i64 (lo 3), .map (some b0), .map (some b1), .map (some b2), .map (some b3)] 60 (0, 0)) :: IntM b0 N (co 0) :: IntM b2 N (co 2) :: IntM b3 N (co 3) :: R))) (fun _ v22 _ => M.length - (RowKit.intOf v22).toNat)
      case atStart => exact ⟨0, A, c, Nat.zero_le _, rfl, by simp, ⟨by simpa using H3.out.r2⟩⟩
      case round =>
        obtain ⟨k, A2, c2, hk, rfl, rfl, HO2⟩ := hrel
        by_cases hlt : k < M.length
        · have hgk := List.getElem?_eq_getElem hlt
          obtain ⟨x, hx⟩ : ∃ x, M[k] = x := ⟨_, rfl⟩
          rw [hx] at hgk
          have HT := Lib.hid (show ys ++ (srcL 1 (co 1) M).take (k + 1) = (ys ++ (srcL 1 (co 1) M).take k) ++ [⟨1, x, ((co 1) x).getD 0⟩] by rw [srcL_take _ M k x hgk, List.append_assoc])
          have hzl : (ys ++ (srcL 1 (co 1) M).take k).length ≤ ys.length + k := by rw [List.length_append, List.length_take]; omega
          obtain ⟨zs, hzs⟩ : ∃ zs, zs = ys ++ (srcL 1 (co 1) M).take k := ⟨_, rfl⟩
          rw [← hzs] at HO2 HT hzl ⊢
          obtain ⟨ab, rfl, hcell⟩ := own_int_at HO2.out.r1 k x hgk
          have hxw : wfI x := by
            obtain ⟨D, _, hd⟩ := int_out HO2.out.r2
            exact hd.wf x ((HM0.out.2 x).1 (List.mem_of_getElem? hgk))
          have hlk := int_look HO2.out.r2 x hxw
          obtain ⟨u, hu⟩ : ∃ u, u = ((co 1) x).getD 0 := ⟨_, rfl⟩
          rw [← hu] at hlk HT
          clear hgk hx hzs hxw hu
          go_wp2_with ((with_reducible refine gate_builtin (b := .append) (xs := #[.tmp 26, .tmp 33]) rfl ?_); at_builtin; refine Own.append k33 rfl (.tmp 26) (.tmp 33) 34 33 (.agg #[.int .i64 0, .int .i64 0, .int .i64 0]) 24 rfl Try.underlying34 info33 rfl (by decide) (by omega) (.slice A2 zs.length c2) zs ⟨1, x, u⟩ [.int .i64 1, .int .i64 x, .int .i64 u] rfl rfl (fun _ => k33_mkM _ _ _ _) HO2.out (by omega) ?_; intro A3 c3 w5 h5; have H5 := Aside0.mk h5; clear h5)
          go_roundw
          case rel => exact ⟨k + 1, A3, c3, by omega, by first | rfl | go_num, by rw [HT.out, List.length_append]; rfl, ⟨by rw [HT.out, List.length_append]; exact H5.out⟩⟩
          case measure => first | (simp [RowKit.intOf]; done) | (simp [RowKit.intOf]; omega)
        · obtain rfl : k = M.length := by omega
          have HE := Lib.hid (show ys ++ (srcL 1 (co 1) M).take M.length = allP co Ms (1 + 1) by rw [HZ1.out, List.take_of_length_le (by rw [srcL_len]; exact Nat.le_refl _)])
          rw [HE.out] at HO2 ⊢
          go_wp2
          go_roundw
          case rel => exact ⟨2, A2, c2, .inr (.inr (.inl ⟨rfl, rfl⟩)), rfl, ⟨HO2.out.r1.tail.r1.r3.r3.r3⟩⟩
          case measure => first | (simp [RowKit.intOf]; done) | (simp [RowKit.intOf]; omega)
    · have hix := ix_2 b0 b1 b2 b3
      have HM0 := Aside0.mk (HM.out 2 (by decide))
      have HL0 := HL.out 2 (by decide)
      have hz0 : (allP co Ms 2).length ≤ 2 * N := HLA.out 2 (by decide)
      have hz1 : allP co Ms (2 + 1) = allP co Ms 2 ++ srcL 2 (co 2) (Ms 2) := rfl
      obtain ⟨M, hMM⟩ : ∃ M, M = Ms 2 := ⟨_, rfl⟩
      rw [← hMM] at HM0 HL0 hz1
      obtain ⟨ys, hys⟩ : ∃ ys, ys = allP co Ms 2 := ⟨_, rfl⟩
      rw [← hys] at HO hz0 hz1 ⊢
      have HZ1 := Lib.hid hz1
      clear hMM hys hz1
      go_wp2_with (first
        | (go_at_call 28; (with_reducible refine (keys_calls _ _).mono ?_); rintro e w2 ⟨rfl, rfl⟩)
        | (go_at_call 27; (with_reducible refine (sorted_calls HO.out.r4 HN.out M HM0.out).mono ?_); rintro e w3 ⟨B, d, rfl, h⟩; have H3 := Aside0.mk h; clear h))
      clear hix
      rename World => wo
      go_loopw [3, 22] (fun v3 v22 wr => ∃ (k : Nat) (A : Option Addr) (c : Nat), k ≤ M.length ∧ v22 = .int .i64 k ∧ v3 = .slice A (ys ++ (srcL 2 (co 2) M).take k).length c ∧ Aside0 (Own w0 wr (Row k33 33 (.slice A (ys ++ (srcL 2 (co 2) M).take k).length c) (ys ++ (srcL 2 (co 2) M).take k) :: Row (Kd.int .i64) 3 (.slice B M.length d) M :: IntM b2 N (co 2) :: Blk g (.cells #[.int .i64 (lo 0), .int .i64 (lo 1), .int .i64 (lo 2), .int .i64 (lo 3), .map (some b0), .map (some b1), .map (some b2), .map (some b3)] 60 (0, 0)) :: IntM b0 N (co 0) :: IntM b1 N (co 1) :: IntM b3 N (co 3) :: R))) (fun _ v22 _ => M.length - (RowKit.intOf v22).toNat)
      case atStart => exact ⟨0, A, c, Nat.zero_le _, rfl, by simp, ⟨by simpa using H3.out.r2⟩⟩
      case round =>
        obtain ⟨k, A2, c2, hk, rfl, rfl, HO2⟩ := hrel
        by_cases hlt : k < M.length
        · have hgk := List.getElem?_eq_getElem hlt
          obtain ⟨x, hx⟩ : ∃ x, M[k] = x := ⟨_, rfl⟩
          rw [hx] at hgk
          have HT := Lib.hid (show ys ++ (srcL 2 (co 2) M).take (k + 1) = (ys ++ (srcL 2 (co 2) M).take k) ++ [⟨2, x, ((co 2) x).getD 0⟩] by rw [srcL_take _ M k x hgk, List.append_assoc])
          have hzl : (ys ++ (srcL 2 (co 2) M).take k).length ≤ ys.length + k := by rw [List.length_append, List.length_take]; omega
          obtain ⟨zs, hzs⟩ : ∃ zs, zs = ys ++ (srcL 2 (co 2) M).take k := ⟨_, rfl⟩
          rw [← hzs] at HO2 HT hzl ⊢
          obtain ⟨ab, rfl, hcell⟩ := own_int_at HO2.out.r1 k x hgk
          have hxw : wfI x := by
            obtain ⟨D, _, hd⟩ := int_out HO2.out.r2
            exact hd.wf x ((HM0.out.2 x).1 (List.mem_of_getElem? hgk))
          have hlk := int_look HO2.out.r2 x hxw
          obtain ⟨u, hu⟩ : ∃ u, u = ((co 2) x).getD 0 := ⟨_, rfl⟩
          rw [← hu] at hlk HT
          clear hgk hx hzs hxw hu
          go_wp2_with ((with_reducible refine gate_builtin (b := .append) (xs := #[.tmp 26, .tmp 33]) rfl ?_); at_builtin; refine Own.append k33 rfl (.tmp 26) (.tmp 33) 34 33 (.agg #[.int .i64 0, .int .i64 0, .int .i64 0]) 24 rfl Try.underlying34 info33 rfl (by decide) (by omega) (.slice A2 zs.length c2) zs ⟨2, x, u⟩ [.int .i64 2, .int .i64 x, .int .i64 u] rfl rfl (fun _ => k33_mkM _ _ _ _) HO2.out (by omega) ?_; intro A3 c3 w5 h5; have H5 := Aside0.mk h5; clear h5)
          go_roundw
          case rel => exact ⟨k + 1, A3, c3, by omega, by first | rfl | go_num, by rw [HT.out, List.length_append]; rfl, ⟨by rw [HT.out, List.length_append]; exact H5.out⟩⟩
          case measure => first | (simp [RowKit.intOf]; done) | (simp [RowKit.intOf]; omega)
        · obtain rfl : k = M.length := by omega
          have HE := Lib.hid (show ys ++ (srcL 2 (co 2) M).take M.length = allP co Ms (2 + 1) by rw [HZ1.out, List.take_of_length_le (by rw [srcL_len]; exact Nat.le_refl _)])
          rw [HE.out] at HO2 ⊢
          go_wp2
          go_roundw
          case rel => exact ⟨3, A2, c2, .inr (.inr (.inr (.inl ⟨rfl, rfl⟩))), rfl, ⟨HO2.out.r1.tail.r1.r4.r4.r4.r4⟩⟩
          case measure => first | (simp [RowKit.intOf]; done) | (simp [RowKit.intOf]; omega)
    · have hix := ix_3 b0 b1 b2 b3
      have HM0 := Aside0.mk (HM.out 3 (by decide))
      have HL0 := HL.out 3 (by decide)
      have hz0 : (allP co Ms 3).length ≤ 3 * N := HLA.out 3 (by decide)
      have hz1 : allP co Ms (3 + 1) = allP co Ms 3 ++ srcL 3 (co 3) (Ms 3) := rfl
      obtain ⟨M, hMM⟩ : ∃ M, M = Ms 3 := ⟨_, rfl⟩
      rw [← hMM] at HM0 HL0 hz1
      obtain ⟨ys, hys⟩ : ∃ ys, ys = allP co Ms 3 := ⟨_, rfl⟩
      rw [← hys] at HO hz0 hz1 ⊢
      have HZ1 := Lib.hid hz1
      clear hMM hys hz1
      go_wp2_with (first
        | (go_at_call 28; (with_reducible refine (keys_calls _ _).mono ?_); rintro e w2 ⟨rfl, rfl⟩)
        | (go_at_call 27; (with_reducible refine (sorted_calls HO.out.r5 HN.out M HM0.out).mono ?_); rintro e w3 ⟨B, d, rfl, h⟩; have H3 := Aside0.mk h; clear h))
      clear hix
      rename World => wo
      go_loopw [3, 22] (fun v3 v22 wr => ∃ (k : Nat) (A : Option Addr) (c : Nat), k ≤ M.length ∧ v22 = .int .i64 k ∧ v3 = .slice A (ys ++ (srcL 3 (co 3) M).take k).length c ∧ Aside0 (Own w0 wr (Row k33 33 (.slice A (ys ++ (srcL 3 (co 3) M).take k).length c) (ys ++ (srcL 3 (co 3) M).take k) :: Row (Kd.int .i64) 3 (.slice B M.length d) M :: IntM b3 N (co 3) :: Blk g (.cells #[.int .i64 (lo 0), .int .i64 (lo 1), .int .i64 (lo 2), .int .i64 (lo 3), .map (some b0), .map (some b1), .map (some b2), .map (some b3)] 60 (0, 0)) :: IntM b0 N (co 0) :: IntM b1 N (co 1) :: IntM b2 N (co 2) :: R))) (fun _ v22 _ => M.length - (RowKit.intOf v22).toNat)
      case atStart => exact ⟨0, A, c, Nat.zero_le _, rfl, by simp, ⟨by simpa using H3.out.r2⟩⟩
      case round =>
        obtain ⟨k, A2, c2, hk, rfl, rfl, HO2⟩ := hrel
        by_cases hlt : k < M.length
        · have hgk := List.getElem?_eq_getElem hlt
          obtain ⟨x, hx⟩ : ∃ x, M[k] = x := ⟨_, rfl⟩
          rw [hx] at hgk
          have HT := Lib.hid (show ys ++ (srcL 3 (co 3) M).take (k + 1) = (ys ++ (srcL 3 (co 3) M).take k) ++ [⟨3, x, ((co 3) x).getD 0⟩] by rw [srcL_take _ M k x hgk, List.append_assoc])
          have hzl : (ys ++ (srcL 3 (co 3) M).take k).length ≤ ys.length + k := by rw [List.length_append, List.length_take]; omega
          obtain ⟨zs, hzs⟩ : ∃ zs, zs = ys ++ (srcL 3 (co 3) M).take k := ⟨_, rfl⟩
          rw [← hzs] at HO2 HT hzl ⊢
          obtain ⟨ab, rfl, hcell⟩ := own_int_at HO2.out.r1 k x hgk
          have hxw : wfI x := by
            obtain ⟨D, _, hd⟩ := int_out HO2.out.r2
            exact hd.wf x ((HM0.out.2 x).1 (List.mem_of_getElem? hgk))
          have hlk := int_look HO2.out.r2 x hxw
          obtain ⟨u, hu⟩ : ∃ u, u = ((co 3) x).getD 0 := ⟨_, rfl⟩
          rw [← hu] at hlk HT
          clear hgk hx hzs hxw hu
          go_wp2_with ((with_reducible refine gate_builtin (b := .append) (xs := #[.tmp 26, .tmp 33]) rfl ?_); at_builtin; refine Own.append k33 rfl (.tmp 26) (.tmp 33) 34 33 (.agg #[.int .i64 0, .int .i64 0, .int .i64 0]) 24 rfl Try.underlying34 info33 rfl (by decide) (by omega) (.slice A2 zs.length c2) zs ⟨3, x, u⟩ [.int .i64 3, .int .i64 x, .int .i64 u] rfl rfl (fun _ => k33_mkM _ _ _ _) HO2.out (by omega) ?_; intro A3 c3 w5 h5; have H5 := Aside0.mk h5; clear h5)
          go_roundw
          case rel => exact ⟨k + 1, A3, c3, by omega, by first | rfl | go_num, by rw [HT.out, List.length_append]; rfl, ⟨by rw [HT.out, List.length_append]; exact H5.out⟩⟩
          case measure => first | (simp [RowKit.intOf]; done) | (simp [RowKit.intOf]; omega)
        · obtain rfl : k = M.length := by omega
          have HE := Lib.hid (show ys ++ (srcL 3 (co 3) M).take M.length = allP co Ms (3 + 1) by rw [HZ1.out, List.take_of_length_le (by rw [srcL_len]; exact Nat.le_refl _)])
          rw [HE.out] at HO2 ⊢
          go_wp2
          go_roundw
          case rel => exact ⟨4, A2, c2, .inr (.inr (.inr (.inr ⟨rfl, rfl⟩))), rfl, ⟨HO2.out.r1.tail.r1.r5.r5.r5.r5.r5⟩⟩
          case measure => first | (simp [RowKit.intOf]; done) | (simp [RowKit.intOf]; omega)
    · go_wp2
      go_ret
      exact ⟨A, c, rfl, seen_shut2 HO.out⟩
end
end Go.Proofs.Ytboomdjkgheonaa.PSeenPlays
