/- Pieces that came (package chunks): Acks, Whole. -/
import Derived.Test.YtdjcndcleaffkaaChk2
import Derived.Test.YtdjcndcleaffkaaAckE
import Derived.StillTailTactics
import Derived.BigQuiet
import Derived.Deep.RegionWith
import Derived.Lib.SliceRun
namespace Go.Proofs.Ytdjcndcleaffkaa.PChunksPlays
open Go.RowKit Go.Proofs.YtdjcndcleaffkaaW.PrintWords Go.Proofs.YtdjcndcleaffkaaW.PrintLast Go.Proofs.YtdjcndcleaffkaaW.PrintMore
open Go.Proofs.YtdjcndcleaffkaaO
attribute [local go_sem] max2_int min2_int max_two min_two max_three min_three max_four min_four
set_option linter.unusedVariables false
set_option linter.unusedSimpArgs false
theorem add_zero' (p : Addr) : p.add 0 = p := by cases p; simp [Addr.add]
theorem tail_drew {P : Program} {id : Nat} {Q : Exit → Act → World → Prop} {a : Act} {w : World} {l : List Oper} (n : Nat) (hm : P.follows .mixedOrders = true) (hB : Region.lexTailB .any l.toArray n = true) (wd : World) (hwd : Hid (wd = w.drew))
    (h : wpStill P l.toArray wd (fun a' => wpList P l.toArray Q (l.drop n) a' wd) (l.take n) a) : (Code.region id l.toArray true).wp P Q a w := by
  have hwd := hwd.out
  subst hwd
  exact wp_region_still_tail n hm hB h
section
variable {w0 w w' : World} {R : List Asn} {g : Nat} {xs : List ByteArray} {L : List Int}
set_option maxHeartbeats 4000000 in
set_option maxRecDepth 100000 in
theorem RowsAcks_nil (w : World) : Calls Try.prog 12 #[.pointer none] w fun e w' => e = .returned (.tuple #[.int .i64 0, .slice none 0 0]) ∧ w = w' := by
  go_enter Try.func12, Try.ntmps12
  go_wp2
  go_ret2
  exact ⟨rfl, rfl⟩
set_option maxHeartbeats 4000000 in
set_option maxRecDepth 100000 in
theorem RowsAcksN (h : Own w0 w (RowsN g :: R)) : Calls Try.prog 12 #[.pointer (some ⟨g, 0, none⟩)] w fun e w' => e = .returned (.tuple #[.int .i64 0, .slice none 0 0]) ∧ Own w0 w' (RowsN g :: R) := by
  have hd := h.drew
  have y1 : w.drew.cell? ⟨g, 1, none⟩ = some (.pointer none) := (blk_cell hd.at0 1).trans rfl
  have H := Aside0.mk hd
  clear h hd
  go_enter Try.func12, Try.ntmps12
  go_wp2
  go_region_with (first
    | (go_at_call 21; ((with_reducible refine (AcksLow_nil _).mono ?_)); rintro e w1 ⟨rfl, rfl⟩)
    | (go_at_call 22; ((with_reducible refine (AcksSet_nil _).mono ?_)); rintro e w2 ⟨rfl, rfl⟩))
  all_goals go_wp2
  all_goals
    go_ret2
    exact ⟨rfl, H.out⟩
set_option maxHeartbeats 4000000 in
set_option maxRecDepth 100000 in
theorem RowsAcks (h : Own w0 w (RowsS g xs L :: R)) (low : Nat) (M : List Int) (hl : LowIs L low) (hM : SetIs L low M) (hL : L.length ≤ 1000000000) : Calls Try.prog 12 #[.pointer (some ⟨g, 0, none⟩)] w fun e w' => ∃ A c, e = .returned (.tuple #[.int .i64 low, .slice A M.length c]) ∧ M.length ≤ c ∧ Own w0 w' (Row (Kd.int .i64) 3 (.slice A M.length c) M :: RowsS g xs L :: R) := by
  have hd := h.drew
  obtain ⟨A, c, ga, hf, hc, h2⟩ := rows_open hd
  have y1 : w.drew.cell? ⟨g, 1, none⟩ = some (.pointer (some ⟨ga, 0, none⟩)) := (blk_cell h2.at0 1).trans rfl
  have HA := Aside0.mk (h2.r2)
  have HF := Aside0.mk hf
  have HL := Aside0.mk hL
  have FL := Aside0.mk (show LowIs L low ∧ SetIs L low M from ⟨hl, hM⟩)
  clear h hd h2 hf hc hl hM hL
  go_enter Try.func12, Try.ntmps12
  go_wp2
  go_region_with (first
    | (go_at_call 21; ((with_reducible refine (AcksLowE HA.out low FL.out.1).mono ?_)); rintro e w1 ⟨rfl, rfl⟩)
    | (go_at_call 22; ((with_reducible refine (AcksSetE HA.out HL.out low M FL.out.1 FL.out.2).mono ?_)); rintro e w2 ⟨B, d, rfl, hd, h⟩; have HD := Aside0.mk hd; have H2 := Aside0.mk h; clear h hd))
  all_goals go_wp2
  all_goals
    go_ret2
    exact ⟨B, d, rfl, HD.out, Own.r1 (rows_shut HF.out H2.out.r1.r3.r3)⟩
set_option maxHeartbeats 4000000 in
set_option maxRecDepth 100000 in
theorem RowsWhole_nil (w : World) : Calls Try.prog 13 #[.pointer none] w fun e w' => e = .returned (.tuple #[.string ⟨#[]⟩, .bool false]) ∧ Below w.heap.size w w' := by
  obtain ⟨wd, hwd⟩ : ∃ wd, wd = w.drew := ⟨_, rfl⟩
  have HB := Aside0.mk (show Below w.heap.size w wd by rw [hwd]; exact (Below.refl _ _).drew)
  have HWD := Lib.hid hwd
  clear hwd
  go_enter Try.func13, Try.ntmps13
  go_wp2
  refine tail_drew 19 (by kernel_rfl) (by kernel_rfl) wd HWD ?_
  simp only [List.take_succ_cons, List.take_zero, List.drop_succ_cons, List.drop_zero]
  repeat ((with_reducible refine wpStill_step (fun K hK => ?_)); go_simp; (with_reducible refine hK _ ?_); clear hK K)
  with_reducible refine wpStill_nil ?_
  go_wp2
  go_ret2
  exact ⟨rfl, HB.out⟩
set_option maxHeartbeats 4000000 in
set_option maxRecDepth 100000 in
theorem RowsWholeN (h : Own w0 w (RowsN g :: R)) : Calls Try.prog 13 #[.pointer (some ⟨g, 0, none⟩)] w fun e w' => e = .returned (.tuple #[.string ⟨#[]⟩, .bool false]) ∧ Own w0 w' (RowsN g :: R) := by
  obtain ⟨wd, hwd⟩ : ∃ wd, wd = w.drew := ⟨_, rfl⟩
  have hd : Own w0 wd (RowsN g :: R) := by rw [hwd]; exact h.drew
  have y0 : wd.cell? ⟨g, 0, none⟩ = some (.slice none 0 0) := (blk_cell hd.at0 0).trans rfl
  have H := Aside0.mk hd
  have HWD := Lib.hid hwd
  have hq : ∀ v : World, (binOp .eql 23 (.slice none 0 0) (.slice none 0 0)).run Try.prog v = .ok (.bool true) v := fun v => Lib.run_eql_slice_nil v 23 9 none 0 0 0 0 Try.underlying23
  clear hwd h hd
  go_enter Try.func13, Try.ntmps13
  go_wp2
  refine tail_drew 19 (by kernel_rfl) (by kernel_rfl) wd HWD ?_
  simp only [List.take_succ_cons, List.take_zero, List.drop_succ_cons, List.drop_zero]
  repeat ((with_reducible refine wpStill_step (fun K hK => ?_)); go_simp; (with_reducible refine hK _ ?_); clear hK K)
  with_reducible refine wpStill_nil ?_
  go_wp2
  go_ret2
  exact ⟨rfl, H.out⟩
theorem row_cells {e : Nat} {b n c : Nat} (h : Own w0 w (Row Kd.string e (.slice (some ⟨b, 0, none⟩) n c) xs :: R)) : ∀ (j : Nat) x, xs[j]? = some x → w.cell? ⟨b, 0 + j, none⟩ = some (.string x) := by
  intro j x hx
  obtain ⟨A, c', e', _, hC⟩ := h.row_reads
  cases e'
  obtain ⟨hjl, rfl⟩ := List.getElem?_eq_some_iff.1 hx
  obtain ⟨ad, c9, e, hK, h7, hc9⟩ := Kd.C_get hC ⟨#[]⟩ (j : Int) (by omega) (by omega)
  cases e
  have hrd : c9 = [.string (xs.getD ((j : Int)).toNat ⟨#[]⟩)] := h7
  subst hrd
  have := hc9 0 _ rfl
  rw [Int.toNat_natCast, List.getD_eq_getElem?_getD, hx] at this
  have e2 : j * (Kd.string).sz + 0 = j := by show j * 1 + 0 = j; omega
  rw [e2] at this
  have e3 : (⟨b, 0, none⟩ : Addr).add j = ⟨b, 0 + j, none⟩ := by rw [add_plain, Nat.zero_add]
  rw [e3] at this
  exact this
/-- The pieces, one behind the other. -/
def joinB (xs : List ByteArray) : ByteArray := ⟨(Lib.join (xs.map (·.data.toList)) ([] : List UInt8)).toArray⟩
set_option maxHeartbeats 4000000 in
set_option maxRecDepth 100000 in
theorem RowsWhole_no (h : Own w0 w (RowsS g xs L :: R)) (low : Nat) (hl : LowIs L low) (hn : low < xs.length) : Calls Try.prog 13 #[.pointer (some ⟨g, 0, none⟩)] w fun e w' => e = .returned (.tuple #[.string ⟨#[]⟩, .bool false]) ∧ Own w0 w' (RowsS g xs L :: R) := by
  obtain ⟨wd, hwd⟩ : ∃ wd, wd = w.drew := ⟨_, rfl⟩
  have hd : Own w0 wd (RowsS g xs L :: R) := by rw [hwd]; exact h.drew
  have H := Aside0.mk hd
  obtain ⟨A, c, ga, hf, hc, h2⟩ := rows_open hd
  obtain ⟨b, c1, e1⟩ := h2.tail.row_form (by omega)
  cases e1
  have y0 : wd.cell? ⟨g, 0, none⟩ = some (.slice (some ⟨b, 0, none⟩) xs.length c) := (blk_cell h2.at0 0).trans rfl
  have y1 : wd.cell? ⟨g, 1, none⟩ = some (.pointer (some ⟨ga, 0, none⟩)) := (blk_cell h2.at0 1).trans rfl
  have HA := Aside0.mk h2.r2
  have HL := Aside0.mk hl
  have HD := Lib.hid (show decide ((xs.length : Int) < 1 ∨ (xs.length : Int) ≤ low) = false from decide_eq_false (by omega))
  have HWD := Lib.hid hwd
  have hq : ∀ v : World, (binOp .eql 23 (.slice (some ⟨b, 0, none⟩) xs.length c) (.slice none 0 0)).run Try.prog v = .ok (.bool false) v := fun v => Lib.run_eql_slice_nil v 23 9 (some ⟨b, 0, none⟩) xs.length c 0 0 Try.underlying23
  clear hwd h hd h2 hl
  go_enter Try.func13, Try.ntmps13
  go_wp2
  refine tail_drew 19 (by kernel_rfl) (by kernel_rfl) wd HWD ?_
  simp only [List.take_succ_cons, List.take_zero, List.drop_succ_cons, List.drop_zero]
  repeat ((with_reducible refine wpStill_step (fun K hK => ?_)); go_simp; (with_reducible refine hK _ ?_); clear hK K)
  with_reducible refine wpStill_nil ?_
  go_wp2_with (go_at_call 23; ((with_reducible refine (AcksWhole HA.out _ low HL.out).mono ?_)); rintro e w5 ⟨rfl, rfl⟩; rw [HD.out])
  go_ret2
  exact ⟨rfl, H.out⟩
set_option maxHeartbeats 4000000 in
set_option maxRecDepth 100000 in
theorem RowsWhole_yes (h : Own w0 w (RowsS g xs L :: R)) (low : Nat) (hl : LowIs L low) (hn : xs.length ≤ low) (hj : (Lib.join (xs.map (·.data.toList)) ([] : List UInt8)).length ≤ 140737488355328) : Calls Try.prog 13 #[.pointer (some ⟨g, 0, none⟩)] w fun e w' => e = .returned (.tuple #[.string (joinB xs), .bool true]) ∧ Own w0 w' (RowsS g xs L :: R) := by
  obtain ⟨wd, hwd⟩ : ∃ wd, wd = w.drew := ⟨_, rfl⟩
  have hd : Own w0 wd (RowsS g xs L :: R) := by rw [hwd]; exact h.drew
  have H := Aside0.mk hd
  obtain ⟨A, c, ga, hf, hc, h2⟩ := rows_open hd
  obtain ⟨b, c1, e1⟩ := h2.tail.row_form (by omega)
  cases e1
  have y0 : wd.cell? ⟨g, 0, none⟩ = some (.slice (some ⟨b, 0, none⟩) xs.length c) := (blk_cell h2.at0 0).trans rfl
  have y1 : wd.cell? ⟨g, 1, none⟩ = some (.pointer (some ⟨ga, 0, none⟩)) := (blk_cell h2.at0 1).trans rfl
  have HA := Aside0.mk h2.r2
  have HL := Aside0.mk hl
  have HCC := Aside0.mk (row_cells h2.tail)
  have HBL := Aside0.mk (show b < wd.heap.size from World.block_lt_of_cell? wd _ (row_cells h2.tail 0 _ (List.getElem?_eq_getElem (show 0 < xs.length by omega))))
  have HJ := Aside0.mk hj
  have HLC := Aside0.mk hc
  have HF := Aside0.mk hf
  have HD := Lib.hid (show decide ((xs.length : Int) < 1 ∨ (xs.length : Int) ≤ low) = true from decide_eq_true (by omega))
  have HWD := Lib.hid hwd
  have hq : ∀ v : World, (binOp .eql 23 (.slice (some ⟨b, 0, none⟩) xs.length c) (.slice none 0 0)).run Try.prog v = .ok (.bool false) v := fun v => Lib.run_eql_slice_nil v 23 9 (some ⟨b, 0, none⟩) xs.length c 0 0 Try.underlying23
  have HN := Aside0.mk (show xs.length ≤ 140737488355328 by omega)
  clear hwd h hd h2 hl hj
  go_enter Try.func13, Try.ntmps13
  go_wp2
  refine tail_drew 19 (by kernel_rfl) (by kernel_rfl) wd HWD ?_
  simp only [List.take_succ_cons, List.take_zero, List.drop_succ_cons, List.drop_zero]
  repeat ((with_reducible refine wpStill_step (fun K hK => ?_)); go_simp; (with_reducible refine hK _ ?_); clear hK K)
  with_reducible refine wpStill_nil ?_
  go_wp2_with (first
    | (go_at_call 23; ((with_reducible refine (AcksWhole HA.out _ low HL.out).mono ?_)); rintro e w5 ⟨rfl, rfl⟩; rw [HD.out])
    | (go_at_call 24; ((with_reducible refine (Try.strings_Join b 0 c xs ⟨#[]⟩ wd HCC.out HBL.out HN.out HLC.out HJ.out).mono ?_)); rintro e w6 ⟨rfl, hb⟩; have H6 := Aside0.mk (H.out.below hb); clear hb))
  go_ret2
  exact ⟨rfl, H6.out⟩
end
end Go.Proofs.Ytdjcndcleaffkaa.PChunksPlays
