/- Pieces that came (package chunks): Put, where some came. -/
import Derived.Test.YtdjcndcleaffkaaChk4
namespace Go.Proofs.Ytdjcndcleaffkaa.PChunksPlays
open Go.RowKit Go.Proofs.YtdjcndcleaffkaaW.PrintWords Go.Proofs.YtdjcndcleaffkaaW.PrintLast Go.Proofs.YtdjcndcleaffkaaW.PrintMore
open Go.Proofs.YtdjcndcleaffkaaO
attribute [local go_sem] max2_int min2_int max_two min_two max_three min_three max_four min_four
set_option linter.unusedVariables false
set_option linter.unusedSimpArgs false
theorem bytes_ne {x d : ByteArray} (h : x ≠ d) : (x.toList == d.toList) = false := by
  rw [ByteArray.toList_eq, ByteArray.toList_eq]
  exact beq_eq_false_iff_ne.mpr fun e => h (ByteArray.ext (Array.toList_inj.1 e))
theorem sub_len2 (L : List Int) (n : Nat) (h : L.Nodup) (hr : ∀ x ∈ L, 1 ≤ x ∧ x ≤ (n : Int)) : L.length ≤ n := by
  have := sub_len L ((List.range n).map fun k : Nat => ((k : Int) + 1)) h fun x hx => List.mem_map.2 ⟨(x - 1).toNat, List.mem_range.2 (by have := hr x hx; omega), by have := hr x hx; omega⟩
  simpa using this
theorem right_len {L : List Int} {n : Nat} (h : Right L) (hr : ∀ x ∈ L, x ≤ (n : Int)) : L.length ≤ n := sub_len2 L n h.1 fun x hx => ⟨(h.2 x hx).1, hr x hx⟩
section
variable {w0 w w' : World} {R : List Asn} {g : Nat} {xs : List ByteArray} {L : List Int}
set_option maxHeartbeats 8000000 in
set_option maxRecDepth 100000 in
theorem RowsPut_len (h : Own w0 w (RowsS g xs L :: R)) (i m : Nat) (d : ByteArray) (hm : mayB ((i : Int) + 1) (m : Int) d = true) (hl : xs.length ≠ m) : Calls Try.prog 14 #[.pointer (some ⟨g, 0, none⟩), .int .i64 ((i : Int) + 1), .int .i64 m, .string d] w fun e w' => e = .returned (.tuple #[.bool false, .int .i64 8]) ∧ Own w0 w' (RowsS g xs L :: R) := by
  have HM := Lib.hid hm
  have hmb := of_decide_eq_true hm
  obtain ⟨m1, m2, m3, m4, m5, m6⟩ := hmb
  have him : i < m := by omega
  have H := Aside0.mk h
  obtain ⟨A, c, ga, hf, hc, h2⟩ := rows_open h
  obtain ⟨b, c1, e1⟩ := h2.tail.row_form (by omega)
  cases e1
  have y0 : w.cell? ⟨g, 0, none⟩ = some (.slice (some ⟨b, 0, none⟩) xs.length c) := (blk_cell h2.at0 0).trans rfl
  have y1 : w.cell? ⟨g, 1, none⟩ = some (.pointer (some ⟨ga, 0, none⟩)) := (blk_cell h2.at0 1).trans rfl
  have hq : ∀ v : World, (binOp .eql 23 (.slice (some ⟨b, 0, none⟩) xs.length c) (.slice none 0 0)).run Try.prog v = .ok (.bool false) v := fun v => Lib.run_eql_slice_nil v 23 9 (some ⟨b, 0, none⟩) xs.length c 0 0 Try.underlying23
  have HW := Aside0.mk (wf64 ((i : Int) + 1) (by omega) (by omega))
  have H2 := Aside0.mk h2
  have HF := Aside0.mk hf
  have e2 : (xs.length == m) = false := beq_eq_false_iff_ne.mpr hl
  have e3 : ((xs.length : Int) == (m : Int)) = false := beq_eq_false_iff_ne.mpr (by omega)
  clear hm m5 m6 h h2 hf
  go_enter Try.func14, Try.ntmps14
  go_wp2_with (go_at_call 25; ((with_reducible refine (may_calls _ _ d w true HM.out).mono ?_)); rintro e w1 ⟨rfl, rfl⟩)
  go_ret2
  exact ⟨rfl, H.out⟩
set_option maxHeartbeats 8000000 in
set_option maxRecDepth 100000 in
theorem RowsPut_ne (h : Own w0 w (RowsS g xs L :: R)) (i m : Nat) (d : ByteArray) (hm : mayB ((i : Int) + 1) (m : Int) d = true) (hl : xs.length = m) (hin : ((i : Int) + 1) ∈ L) (hne : xs[i]? ≠ some d) : Calls Try.prog 14 #[.pointer (some ⟨g, 0, none⟩), .int .i64 ((i : Int) + 1), .int .i64 m, .string d] w fun e w' => e = .returned (.tuple #[.bool false, .int .i64 8]) ∧ Own w0 w' (RowsS g xs L :: R) := by
  subst hl
  have HM := Lib.hid hm
  have hmb := of_decide_eq_true hm
  obtain ⟨m1, m2, m3, m4, m5, m6⟩ := hmb
  have him : i < xs.length := by omega
  have H := Aside0.mk h
  obtain ⟨A, c, ga, hf, hc, h2⟩ := rows_open h
  obtain ⟨b, c1, e1⟩ := h2.tail.row_form (by omega)
  cases e1
  have y0 : w.cell? ⟨g, 0, none⟩ = some (.slice (some ⟨b, 0, none⟩) xs.length c) := (blk_cell h2.at0 0).trans rfl
  have y1 : w.cell? ⟨g, 1, none⟩ = some (.pointer (some ⟨ga, 0, none⟩)) := (blk_cell h2.at0 1).trans rfl
  have hq : ∀ v : World, (binOp .eql 23 (.slice (some ⟨b, 0, none⟩) xs.length c) (.slice none 0 0)).run Try.prog v = .ok (.bool false) v := fun v => Lib.run_eql_slice_nil v 23 9 (some ⟨b, 0, none⟩) xs.length c 0 0 Try.underlying23
  have HW := Aside0.mk (wf64 ((i : Int) + 1) (by omega) (by omega))
  have H2 := Aside0.mk h2
  have HF := Aside0.mk hf
  have HIN := Lib.hid (decide_eq_true hin)
  obtain ⟨x, hx⟩ : ∃ x, xs[i] = x := ⟨_, rfl⟩
  have hxd : x ≠ d := fun e => hne (by rw [List.getElem?_eq_getElem him, hx, e])
  have HXD := Aside0.mk (bytes_ne hxd)
  have HX := Lib.hid hx
  clear hm m5 m6 h h2 hf hin hne hx hxd
  go_enter Try.func14, Try.ntmps14
  go_wp2_with (first
    | (go_at_call 25; ((with_reducible refine (may_calls _ _ d w true HM.out).mono ?_)); rintro e w1 ⟨rfl, rfl⟩)
    | (go_at_call 27; ((with_reducible refine (AcksHas H2.out.r2 ((i : Int) + 1) HW.out).mono ?_)); rintro e w4 ⟨rfl, h⟩; rw [HIN.out]; have H4 := Aside0.mk h.r2; clear h; have z0 := (blk_cell H4.out.at2 0).trans rfl; have z1 := (blk_cell H4.out.at2 1).trans rfl; have z2 := (row_free H4.out i him).1; rw [HX.out] at z2; have z3 := HXD.out))
  go_ret2
  exact ⟨rfl, rows_shut HF.out H4.out.r2⟩
set_option maxHeartbeats 8000000 in
set_option maxRecDepth 100000 in
theorem RowsPut_new (h : Own w0 w (RowsS g xs L :: R)) (i m : Nat) (d : ByteArray) (hm : mayB ((i : Int) + 1) (m : Int) d = true) (hl : xs.length = m) (hin : ((i : Int) + 1) ∉ L) : Calls Try.prog 14 #[.pointer (some ⟨g, 0, none⟩), .int .i64 ((i : Int) + 1), .int .i64 m, .string d] w fun e w' => e = .returned (.tuple #[.bool true, .int .i64 0]) ∧ Own w0 w' (RowsS g (xs.set i d) (addL L ((i : Int) + 1)) :: R) := by
  subst hl
  have HM := Lib.hid hm
  have hmb := of_decide_eq_true hm
  obtain ⟨m1, m2, m3, m4, m5, m6⟩ := hmb
  have him : i < xs.length := by omega
  have H := Aside0.mk h
  obtain ⟨A, c, ga, hf, hc, h2⟩ := rows_open h
  obtain ⟨b, c1, e1⟩ := h2.tail.row_form (by omega)
  cases e1
  have y0 : w.cell? ⟨g, 0, none⟩ = some (.slice (some ⟨b, 0, none⟩) xs.length c) := (blk_cell h2.at0 0).trans rfl
  have y1 : w.cell? ⟨g, 1, none⟩ = some (.pointer (some ⟨ga, 0, none⟩)) := (blk_cell h2.at0 1).trans rfl
  have hq : ∀ v : World, (binOp .eql 23 (.slice (some ⟨b, 0, none⟩) xs.length c) (.slice none 0 0)).run Try.prog v = .ok (.bool false) v := fun v => Lib.run_eql_slice_nil v 23 9 (some ⟨b, 0, none⟩) xs.length c 0 0 Try.underlying23
  have HW := Aside0.mk (wf64 ((i : Int) + 1) (by omega) (by omega))
  have H2 := Aside0.mk h2
  have HF := Aside0.mk hf
  have hrt : Right L := acks_right h2.r2
  have HFR := Aside0.mk (show freshB L ((i : Int) + 1) = true from decide_eq_true ⟨by omega, by omega, hin⟩)
  have HIN := Lib.hid (decide_eq_false hin)
  have HLL := Aside0.mk (show ∀ x ∈ addL L ((i : Int) + 1), x ≤ (((xs.set i d).length : Nat) : Int) from fun x hx => by
    rw [List.length_set]
    rcases (addL_mem L _ x).1 hx with hx | hx
    · exact hf.2.2.1 x hx
    · omega)
  have hds : d.size ≤ 64 := by
    by_cases q : ((i : Int) + 1) < (xs.length : Int)
    · have := m5 q; omega
    · exact (m6 (by omega)).1
  have HD := Lib.hid hds
  have HB := Aside0.mk (show L.length < 100000000000 by
    have := right_len hrt fun x hx => hf.2.2.1 x hx
    omega)
  clear hm m5 m6 h h2 hf hin hds hrt
  go_enter Try.func14, Try.ntmps14
  go_wp2_with (first
    | (go_at_call 25; ((with_reducible refine (may_calls _ _ d w true HM.out).mono ?_)); rintro e w1 ⟨rfl, rfl⟩)
    | (go_at_call 27; ((with_reducible refine (AcksHas H2.out.r2 ((i : Int) + 1) HW.out).mono ?_)); rintro e w4 ⟨rfl, h⟩; rw [HIN.out]; have H4 := Aside0.mk h.r2; clear h; have z0 := (blk_cell H4.out.at2 0).trans rfl; have z1 := (blk_cell H4.out.at2 1).trans rfl; have z2 := (row_free H4.out i him).1; have z4 := (row_free H4.out i him).2; skip; have h5 := H4.out.rowput (i : Int) d; rw [Int.toNat_natCast] at h5; have z7 := (blk_cell h5.at2 1).trans rfl; have H5 := Aside0.mk h5; clear h5)
    | (go_at_call 28; ((with_reducible refine (AcksAdd H5.out.r1 ((i : Int) + 1) HW.out HB.out true HFR.out).mono ?_)); rintro e w6 ⟨rfl, h⟩; have H6 := Aside0.mk h; clear h))
  go_ret2
  exact ⟨rfl, rows_shut ⟨by rw [List.length_set]; omega, by rw [List.length_set]; omega, HLL.out, fun x hx => by
    rcases List.mem_or_eq_of_mem_set hx with hx | rfl
    · exact HF.out.2.2.2 x hx
    · exact HD.out⟩ H6.out.r1.r2⟩
set_option maxHeartbeats 8000000 in
set_option maxRecDepth 100000 in
theorem RowsPut_old (h : Own w0 w (RowsS g xs L :: R)) (i m : Nat) (d : ByteArray) (hm : mayB ((i : Int) + 1) (m : Int) d = true) (hl : xs.length = m) (hin : ((i : Int) + 1) ∈ L) (hxd : xs[i]? = some d) : Calls Try.prog 14 #[.pointer (some ⟨g, 0, none⟩), .int .i64 ((i : Int) + 1), .int .i64 m, .string d] w fun e w' => e = .returned (.tuple #[.bool false, .int .i64 0]) ∧ Own w0 w' (RowsS g (xs.set i d) (addL L ((i : Int) + 1)) :: R) := by
  subst hl
  have HM := Lib.hid hm
  have hmb := of_decide_eq_true hm
  obtain ⟨m1, m2, m3, m4, m5, m6⟩ := hmb
  have him : i < xs.length := by omega
  have H := Aside0.mk h
  obtain ⟨A, c, ga, hf, hc, h2⟩ := rows_open h
  obtain ⟨b, c1, e1⟩ := h2.tail.row_form (by omega)
  cases e1
  have y0 : w.cell? ⟨g, 0, none⟩ = some (.slice (some ⟨b, 0, none⟩) xs.length c) := (blk_cell h2.at0 0).trans rfl
  have y1 : w.cell? ⟨g, 1, none⟩ = some (.pointer (some ⟨ga, 0, none⟩)) := (blk_cell h2.at0 1).trans rfl
  have hq : ∀ v : World, (binOp .eql 23 (.slice (some ⟨b, 0, none⟩) xs.length c) (.slice none 0 0)).run Try.prog v = .ok (.bool false) v := fun v => Lib.run_eql_slice_nil v 23 9 (some ⟨b, 0, none⟩) xs.length c 0 0 Try.underlying23
  have HW := Aside0.mk (wf64 ((i : Int) + 1) (by omega) (by omega))
  have H2 := Aside0.mk h2
  have HF := Aside0.mk hf
  have hrt : Right L := acks_right h2.r2
  have HFR := Aside0.mk (show freshB L ((i : Int) + 1) = false from decide_eq_false fun q => q.2.2 hin)
  have HIN := Lib.hid (decide_eq_true hin)
  have HX := Lib.hid (show xs[i] = d from Option.some.inj ((List.getElem?_eq_getElem him).symm.trans hxd))
  have HLL := Aside0.mk (show ∀ x ∈ addL L ((i : Int) + 1), x ≤ (((xs.set i d).length : Nat) : Int) from fun x hx => by
    rw [List.length_set]
    rcases (addL_mem L _ x).1 hx with hx | hx
    · exact hf.2.2.1 x hx
    · omega)
  have hds : d.size ≤ 64 := by
    by_cases q : ((i : Int) + 1) < (xs.length : Int)
    · have := m5 q; omega
    · exact (m6 (by omega)).1
  have HD := Lib.hid hds
  have HB := Aside0.mk (show L.length < 100000000000 by
    have := right_len hrt fun x hx => hf.2.2.1 x hx
    omega)
  clear hm m5 m6 h h2 hf hin hds hrt hxd
  go_enter Try.func14, Try.ntmps14
  go_wp2_with (first
    | (go_at_call 25; ((with_reducible refine (may_calls _ _ d w true HM.out).mono ?_)); rintro e w1 ⟨rfl, rfl⟩)
    | (go_at_call 27; ((with_reducible refine (AcksHas H2.out.r2 ((i : Int) + 1) HW.out).mono ?_)); rintro e w4 ⟨rfl, h⟩; rw [HIN.out]; have H4 := Aside0.mk h.r2; clear h; have z0 := (blk_cell H4.out.at2 0).trans rfl; have z1 := (blk_cell H4.out.at2 1).trans rfl; have z2 := (row_free H4.out i him).1; have z4 := (row_free H4.out i him).2; rw [HX.out] at z2; have h5 := H4.out.rowput (i : Int) d; rw [Int.toNat_natCast] at h5; have z7 := (blk_cell h5.at2 1).trans rfl; have H5 := Aside0.mk h5; clear h5)
    | (go_at_call 28; ((with_reducible refine (AcksAdd H5.out.r1 ((i : Int) + 1) HW.out HB.out false HFR.out).mono ?_)); rintro e w6 ⟨rfl, h⟩; have H6 := Aside0.mk h; clear h))
  go_ret2
  exact ⟨rfl, rows_shut ⟨by rw [List.length_set]; omega, by rw [List.length_set]; omega, HLL.out, fun x hx => by
    rcases List.mem_or_eq_of_mem_set hx with hx | rfl
    · exact HF.out.2.2.2 x hx
    · exact HD.out⟩ H6.out.r1.r2⟩
end
end Go.Proofs.Ytdjcndcleaffkaa.PChunksPlays
