/- Traces (package trace): New, Shards, find, Clone. -/
import Derived.Test.YtglccegihffndaaTrc1
namespace Go.Proofs.Ytglccegihffndaa.PTracePlays
open Go.RowKit Go.Proofs.YtglccegihffndaaW.PrintWords Go.Proofs.YtglccegihffndaaW.PrintLast Go.Proofs.YtglccegihffndaaW.PrintMore
open Go.Proofs.YtglccegihffndaaO
attribute [local go_sem] max2_int min2_int max_two min_two max_three min_three max_four min_four
set_option linter.unusedVariables false
set_option linter.unusedSimpArgs false
section
variable {w0 w w' : World} {R : List Asn} {g : Nat} {ss : List (List TO × List TA)}
set_option maxHeartbeats 4000000 in
set_option maxRecDepth 100000 in
theorem TrNew_bad (n : Int) (w : World) (hn : ¬ (1 ≤ n ∧ n ≤ 8)) : Calls Try.prog 10 #[.int .i64 n] w fun e w' => e = .returned (.tuple #[.pointer none, .int .i64 1]) ∧ w = w' := by
  by_cases h1 : n < 1
  · have d1 : decide (n < 1) = true := decide_eq_true h1
    go_enter Try.func10, Try.ntmps10
    go_wp2
    go_ret2
    exact ⟨rfl, rfl⟩
  · have d1 : decide (n < 1) = false := decide_eq_false h1
    have d2 : decide (n > 8) = true := decide_eq_true (by omega)
    go_enter Try.func10, Try.ntmps10
    go_wp2
    go_ret2
    exact ⟨rfl, rfl⟩
theorem cellsV_rep (v : Value) : ∀ n, cellsV (List.replicate n (v, v)) = List.replicate (n * 2) v
  | 0 => rfl
  | n + 1 => by
    have e : (n + 1) * 2 = n * 2 + 1 + 1 := by omega
    rw [e, List.replicate_succ, List.replicate_succ, List.replicate_succ, cellsV, cellsV_rep v n]
theorem made_two (v : Value) (m : Nat) : madeCells #[v, v] m = (List.replicate m v).toArray := by
  have e : (fun x => (#[v, v] : Array Value)[x % (#[v, v] : Array Value).size]!) = fun _ : Nat => v := funext fun x => by
    show (#[v, v] : Array Value)[x % 2]! = v
    rcases Nat.mod_two_eq_zero_or_one x with h | h <;> rw [h] <;> rfl
  unfold madeCells
  rw [e]
  apply Array.ext
  · simp
  · intro i h1 h2
    simp
theorem make_shards (n : Nat) (h8 : n ≤ 8) (W : World) : (Instr.makeSlice 53 (.int .i64 n) (.int .i64 n)).run Try.prog W = .ok (.slice (some ⟨W.heap.size, 0, none⟩) n n) (W.alloc (.cells (cellsV (List.replicate n (.slice none 0 0, .slice none 0 0))).toArray 68)) := by
  have hinfo : (Try.prog.info? 68).map (fun i => (i.zero, i.size, i.bytes)) = some (some (.agg #[.slice none 0 0, .slice none 0 0]), 2, 48) := by kernel_rfl
  obtain ⟨i, hi, hzz⟩ := Option.map_eq_some_iff.1 hinfo
  simp only [Prod.mk.injEq] at hzz
  obtain ⟨hz, hs, hb⟩ := hzz
  have hr := run_make (P := Try.prog) W 53 68 i _ Try.underlying53 hi hz .i64 .i64 n n (by omega) (Int.le_refl _) (by rw [hb]; omega) (by omega)
  rw [hs, Int.toNat_natCast] at hr
  rw [hr, cellsV_rep, ← made_two]
  rfl
set_option maxHeartbeats 4000000 in
set_option maxRecDepth 100000 in
theorem TrNew (h : Own w0 w R) (n : Nat) (h1 : 1 ≤ n) (h8 : n ≤ 8) : Calls Try.prog 10 #[.int .i64 n] w fun e w' => ∃ g : Nat, e = .returned (.tuple #[.pointer (some ⟨g, 0, none⟩), .int .i64 0]) ∧ Own w0 w' (Tr g (List.replicate n ([], [])) :: R) := by
  have hmk := make_shards n h8
  have d1 : decide ((n : Int) < 1) = false := decide_eq_false (by omega)
  have d2 : decide ((n : Int) > 8) = false := decide_eq_false (by omega)
  have d3 : decide (n < 1) = false := decide_eq_false (by omega)
  have d4 : decide (8 < n) = false := decide_eq_false (by omega)
  have h2 := (h.alloc (.cells (cellsV (List.replicate n (.slice none 0 0, .slice none 0 0))).toArray 68))
  have h3 := h2.alloc (.cells #[.slice (some ⟨w.heap.size, 0, none⟩) n n] 55)
  have h4 := rows_new n h3
  have h5 := tr_shut (ss := List.replicate n ([], [])) (ps := List.replicate n (.slice none 0 0, .slice none 0 0)) (by rw [List.length_replicate, List.length_replicate]; exact ⟨rfl, h1, h8⟩) (by rw [List.length_replicate]; exact h4.r2.r2)
  rw [alloc_size] at h5
  have H := Aside0.mk h5
  clear h h2 h3 h4 h5
  go_enter Try.func10, Try.ntmps10
  go_wp2
  go_ret2
  exact ⟨_, rfl, H.out⟩
set_option maxHeartbeats 4000000 in
set_option maxRecDepth 100000 in
theorem TrShards_nil (w : World) : Calls Try.prog 16 #[.pointer none] w fun e w' => e = .returned (.int .i64 0) ∧ w = w' := by
  go_enter Try.func16, Try.ntmps16
  go_wp2
  go_ret
  exact ⟨rfl, rfl⟩
set_option maxHeartbeats 4000000 in
set_option maxRecDepth 100000 in
theorem TrShards (h : Own w0 w (Tr g ss :: R)) : Calls Try.prog 16 #[.pointer (some ⟨g, 0, none⟩)] w fun e w' => e = .returned (.int .i64 ss.length) ∧ w = w' := by
  obtain ⟨b, ps, hf, h2⟩ := tr_open h
  have y0 : w.cell? ⟨g, 0, none⟩ = some (.slice (some ⟨b, 0, none⟩) ss.length ss.length) := (blk_cell h2.at0 0).trans rfl
  clear h hf h2
  go_enter Try.func16, Try.ntmps16
  go_wp2
  go_ret
  exact ⟨rfl, rfl⟩
set_option maxHeartbeats 4000000 in
set_option maxRecDepth 100000 in
theorem find_nil (part : Int) (w : World) : Calls Try.prog 18 #[.pointer none, .int .i64 part] w fun e w' => e = .returned (.tuple #[.pointer none, .int .i64 2]) ∧ w = w' := by
  go_enter Try.func18, Try.ntmps18
  go_wp2
  go_ret2
  exact ⟨rfl, rfl⟩
set_option maxHeartbeats 4000000 in
set_option maxRecDepth 100000 in
theorem find_none (p : Addr) (part : Int) (w : World) (hp : w.cell? p = some (.slice none 0 0)) : Calls Try.prog 18 #[.pointer (some p), .int .i64 part] w fun e w' => e = .returned (.tuple #[.pointer none, .int .i64 2]) ∧ w = w' := by
  have hq : ∀ v : World, (binOp .eql 53 (.slice none 0 0) (.slice none 0 0)).run Try.prog v = .ok (.bool true) v := fun v => Lib.run_eql_slice_nil v 53 68 none 0 0 0 0 Try.underlying53
  go_enter Try.func18, Try.ntmps18
  go_wp2
  go_ret2
  exact ⟨rfl, rfl⟩
/-- Is there such a shard? -/
def inB (n : Nat) (part : Int) : Bool := decide (0 ≤ part ∧ part < n)
set_option maxHeartbeats 4000000 in
set_option maxRecDepth 100000 in
theorem find_out (b : Nat) (h : Own w0 w (Blk g (.cells #[.slice (some ⟨b, 0, none⟩) ss.length ss.length] 55 (0, 0)) :: R)) (part : Int) (hb : inB ss.length part = false) : Calls Try.prog 18 #[.pointer (some ⟨g, 0, none⟩), .int .i64 part] w fun e w' => e = .returned (.tuple #[.pointer none, .int .i64 21]) ∧ w = w' := by
  have y0 : w.cell? ⟨g, 0, none⟩ = some (.slice (some ⟨b, 0, none⟩) ss.length ss.length) := (blk_cell h.at0 0).trans rfl
  have hq : ∀ v : World, (binOp .eql 53 (.slice (some ⟨b, 0, none⟩) ss.length ss.length) (.slice none 0 0)).run Try.prog v = .ok (.bool false) v := fun v => Lib.run_eql_slice_nil v 53 68 (some ⟨b, 0, none⟩) ss.length ss.length 0 0 Try.underlying53
  have hb := of_decide_eq_false hb
  by_cases h1 : part < 0
  · have d1 : decide (part < 0) = true := decide_eq_true h1
    clear h
    go_enter Try.func18, Try.ntmps18
    go_wp2
    go_ret2
    exact ⟨rfl, rfl⟩
  · have d1 : decide (part < 0) = false := decide_eq_false h1
    have d2 : decide (part ≥ (ss.length : Int)) = true := decide_eq_true (by omega)
    have d3 : decide ((ss.length : Int) ≤ part) = true := decide_eq_true (by omega)
    clear h
    go_enter Try.func18, Try.ntmps18
    go_wp2
    go_ret2
    exact ⟨rfl, rfl⟩
set_option maxHeartbeats 4000000 in
set_option maxRecDepth 100000 in
theorem find_in (b : Nat) (h : Own w0 w (Blk g (.cells #[.slice (some ⟨b, 0, none⟩) ss.length ss.length] 55 (0, 0)) :: R)) (i : Nat) (hi : i < ss.length) : Calls Try.prog 18 #[.pointer (some ⟨g, 0, none⟩), .int .i64 i] w fun e w' => e = .returned (.tuple #[.pointer (some ⟨b, i * 2, none⟩), .int .i64 0]) ∧ w = w' := by
  have y0 : w.cell? ⟨g, 0, none⟩ = some (.slice (some ⟨b, 0, none⟩) ss.length ss.length) := (blk_cell h.at0 0).trans rfl
  have hq : ∀ v : World, (binOp .eql 53 (.slice (some ⟨b, 0, none⟩) ss.length ss.length) (.slice none 0 0)).run Try.prog v = .ok (.bool false) v := fun v => Lib.run_eql_slice_nil v 53 68 (some ⟨b, 0, none⟩) ss.length ss.length 0 0 Try.underlying53
  have d1 : decide ((i : Int) < 0) = false := decide_eq_false (by omega)
  have d2 : decide ((i : Int) ≥ (ss.length : Int)) = false := decide_eq_false (by omega)
  have d3 : decide (ss.length ≤ i) = false := decide_eq_false (by omega)
  have e1 := add_at b (i * 2)
  clear h
  go_enter Try.func18, Try.ntmps18
  go_wp2
  go_ret2
  exact ⟨by rw [← e1]; rfl, rfl⟩
end
end Go.Proofs.Ytglccegihffndaa.PTracePlays
