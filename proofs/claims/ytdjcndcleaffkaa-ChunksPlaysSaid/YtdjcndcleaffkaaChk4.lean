/- Pieces that came (package chunks): Put. -/
import Derived.Test.YtdjcndcleaffkaaChk3
namespace Go.Proofs.Ytdjcndcleaffkaa.PChunksPlays
open Go.RowKit Go.Proofs.YtdjcndcleaffkaaW.PrintWords Go.Proofs.YtdjcndcleaffkaaW.PrintLast Go.Proofs.YtdjcndcleaffkaaW.PrintMore
open Go.Proofs.YtdjcndcleaffkaaO
attribute [local go_sem] max2_int min2_int max_two min_two max_three min_three max_four min_four
set_option linter.unusedVariables false
set_option linter.unusedSimpArgs false
section
variable {w0 w w' : World} {R : List Asn} {g : Nat} {xs : List ByteArray} {L : List Int}
theorem row_free {e : Nat} {b n c : Nat} (h : Own w0 w (Row Kd.string e (.slice (some ⟨b, 0, none⟩) n c) xs :: R)) (i : Nat) (hi : i < xs.length) : w.cell? ⟨b, i, none⟩ = some (.string xs[i]) ∧ w.frozen? ⟨b, i, none⟩ = false := by
  constructor
  · have := row_cells h i xs[i] (List.getElem?_eq_getElem hi)
    rwa [Nat.zero_add] at this
  · obtain ⟨F, hr, _⟩ := h.row_out
    obtain ⟨inner, ho⟩ := Kd.R_own hr
    rcases ho.2 with ⟨h', _⟩ | ⟨g', cap', cur, h', _, hh, _⟩
    · cases h'
    · cases h'
      exact blk_frozen hh i
set_option maxHeartbeats 4000000 in
set_option maxRecDepth 100000 in
theorem RowsPut_nil (n count : Int) (d : ByteArray) (w : World) : Calls Try.prog 14 #[.pointer none, .int .i64 n, .int .i64 count, .string d] w fun e w' => e = .returned (.tuple #[.bool false, .int .i64 2]) ∧ w = w' := by
  go_enter Try.func14, Try.ntmps14
  go_wp2
  go_ret2
  exact ⟨rfl, rfl⟩
set_option maxHeartbeats 4000000 in
set_option maxRecDepth 100000 in
theorem RowsPut_bad (n count : Int) (d : ByteArray) (w : World) (hm : mayB n count d = false) : Calls Try.prog 14 #[.pointer (some ⟨g, 0, none⟩), .int .i64 n, .int .i64 count, .string d] w fun e w' => e = .returned (.tuple #[.bool false, .int .i64 1]) ∧ w = w' := by
  have HM := Lib.hid hm
  clear hm
  go_enter Try.func14, Try.ntmps14
  go_wp2_with (go_at_call 25; ((with_reducible refine (may_calls n count d w false HM.out).mono ?_)); rintro e w1 ⟨rfl, rfl⟩)
  go_ret2
  exact ⟨rfl, rfl⟩
set_option maxHeartbeats 8000000 in
set_option maxRecDepth 100000 in
theorem RowsPutN (h : Own w0 w (RowsN g :: R)) (i m : Nat) (d : ByteArray) (hm : mayB ((i : Int) + 1) (m : Int) d = true) : Calls Try.prog 14 #[.pointer (some ⟨g, 0, none⟩), .int .i64 ((i : Int) + 1), .int .i64 m, .string d] w fun e w' => e = .returned (.tuple #[.bool true, .int .i64 0]) ∧ Own w0 w' (RowsS g ((List.replicate m ⟨#[]⟩).set i d) [(i : Int) + 1] :: R) := by
  have HM := Lib.hid hm
  have hmb := of_decide_eq_true hm
  obtain ⟨m1, m2, m3, m4, m5, m6⟩ := hmb
  have him : i < m := by omega
  have hds : d.size ≤ 64 := by
    by_cases q : ((i : Int) + 1) < m
    · have := m5 q; omega
    · exact (m6 (by omega)).1
  have hq : ∀ v : World, (binOp .eql 23 (.slice none 0 0) (.slice none 0 0)).run Try.prog v = .ok (.bool true) v := fun v => Lib.run_eql_slice_nil v 23 9 none 0 0 0 0 Try.underlying23
  have hmk := print_make_of (P := Try.prog) 23 9 (.string ⟨#[]⟩) 16 Try.underlying23 (by kernel_rfl) rfl (by decide) m (by omega)
  have y0 : w.cell? ⟨g, 0, none⟩ = some (.slice none 0 0) := (blk_cell h.at0 0).trans rfl
  have y1 := (blk_cell (blk_alloc h.at0 (.cells (madeCells #[Value.string ⟨#[]⟩] m) 9)) 0).trans rfl
  have f1 := blk_frozen (blk_alloc h.at0 (.cells (madeCells #[Value.string ⟨#[]⟩] m) 9)) 0
  have H1 := Aside0.mk (((h.made 9 m (by omega)).r1).set 0 (.slice (some ⟨w.heap.size, 0, none⟩) m m))
  have HX := Aside0.mk (show freshB [] ((i : Int) + 1) = true from decide_eq_true ⟨by omega, by omega, by simp⟩)
  have HE := Lib.hid (show addL [] ((i : Int) + 1) = [(i : Int) + 1] from if_pos HX.out)
  have HD := Lib.hid hds
  have HW := Aside0.mk (wf64 ((i : Int) + 1) (by omega) (by omega))
  have hlen : (List.replicate m (⟨#[]⟩ : ByteArray)).length = m := List.length_replicate
  obtain ⟨xs, hxs⟩ : ∃ xs : List ByteArray, xs = List.replicate m ⟨#[]⟩ := ⟨_, rfl⟩
  rw [← hxs] at H1 hlen ⊢
  have HXS := Lib.hid hxs
  have HLEN := Lib.hid hlen
  clear hm m5 m6 hds h hxs hlen
  go_enter Try.func14, Try.ntmps14
  go_wp2_with (first
    | (go_at_call 25; ((with_reducible refine (may_calls _ _ d w true HM.out).mono ?_)); rintro e w1 ⟨rfl, rfl⟩)
    | (go_at_call 26; ((with_reducible refine (AcksNew H1.out).mono ?_)); rintro e w2 ⟨ga, rfl, h⟩; have y2 := (blk_cell h.at1 1).trans rfl; have f2 := blk_frozen h.at1 1; have H3 := Aside0.mk (h.r1.set 1 (.pointer (some ⟨ga, 0, none⟩))); have y3 := (blk_cell H3.out.at0 0).trans rfl; have y4 := (blk_cell H3.out.at0 1).trans rfl; clear h)
    | (go_at_call 27; ((with_reducible refine (AcksHas H3.out.r1 ((i : Int) + 1) HW.out).mono ?_)); rintro e w4 ⟨rfl, h⟩; rw [show decide (((i : Int) + 1) ∈ ([] : List Int)) = false from decide_eq_false (by simp)]; have H4 := Aside0.mk h.r2; clear y2 f2 y3 y4; have y5 := (blk_cell h.at1 0).trans rfl; have y6 := (row_free H4.out i (by rw [HLEN.out]; exact him)).1; have f6 := (row_free H4.out i (by rw [HLEN.out]; exact him)).2; have h5 := H4.out.rowput (i : Int) d; rw [Int.toNat_natCast] at h5; have y7 := (blk_cell h5.at2 1).trans rfl; have H5 := Aside0.mk h5; clear h5 h)
    | (go_at_call 28; ((with_reducible refine (AcksAdd H5.out.r1 ((i : Int) + 1) HW.out (by simp) true HX.out).mono ?_)); rintro e w6 ⟨rfl, h⟩; rw [HE.out] at h; have H6 := Aside0.mk h; clear h))
  go_ret2
  have hl2 : (xs.set i d).length = m := by rw [List.length_set]; exact HLEN.out
  exact ⟨rfl, rows_shut ⟨by omega, by omega, fun x hx => by rw [List.mem_singleton] at hx; omega, fun x hx => by
    rcases List.mem_or_eq_of_mem_set hx with hx | rfl
    · rw [HXS.out] at hx
      rw [(List.mem_replicate.1 hx).2]
      decide
    · exact HD.out⟩ H6.out.r1.r2⟩
end
end Go.Proofs.Ytdjcndcleaffkaa.PChunksPlays
