/- Items that were seen (package seen): New, code. -/
import Derived.Test.YtboomdjkgheonaaSeen2
namespace Go.Proofs.Ytboomdjkgheonaa.PSeenPlays
open Go.RowKit Go.Proofs.YtboomdjkgheonaaW.PrintWords Go.Proofs.YtboomdjkgheonaaW.PrintLast Go.Proofs.YtboomdjkgheonaaW.PrintMore
open Go.Proofs.YtboomdjkgheonaaO
attribute [local go_sem] max2_int min2_int max_two min_two max_three min_three max_four min_four
set_option linter.unusedVariables false
set_option linter.unusedSimpArgs false
section
variable {w0 w w' : World} {R : List Asn} {g N : Nat} {lo : Nat → Int} {co : Nat → Int → Option Int}
def codeB (n : Int) : Bool := decide (1 ≤ n ∧ n ≤ 4)
theorem code_calls (n : Int) (w : World) : Calls Try.prog 23 #[.int .i64 n] w fun e w' => e = .returned (.bool (codeB n)) ∧ w = w' := by
  by_cases h1 : n ≥ 1
  · have d1 : decide (n ≥ 1) = true := decide_eq_true h1
    have HE := Lib.hid (show codeB n = decide (n ≤ 4) from decide_eq_decide.2 ⟨fun q => q.2, fun q => ⟨h1, q⟩⟩)
    go_enter Try.func23, Try.ntmps23
    go_wp2
    go_ret
    exact ⟨by rw [HE.out]; rfl, rfl⟩
  · have d1 : decide (n ≥ 1) = false := decide_eq_false h1
    have HE := Lib.hid (show codeB n = false from decide_eq_false fun q => h1 q.1)
    go_enter Try.func23, Try.ntmps23
    go_wp2
    go_ret
    exact ⟨by rw [HE.out]; rfl, rfl⟩
set_option maxHeartbeats 4000000 in
set_option maxRecDepth 100000 in
theorem SeenNew (h : Own w0 w R) : Calls Try.prog 8 #[] w fun e w' => ∃ g : Nat, e = .returned (.pointer (some ⟨g, 0, none⟩)) ∧ Own w0 w' (SeenA g 0 (fun _ => 1) (fun _ _ => none) :: R) := by
  have H := Aside0.mk h
  have hmm := @run_makeMap Try.prog
  clear h
  go_enter Try.func8, Try.ntmps8
  go_wp2
  refine wp_loop_rounds 5 ?_
  rw [rounds_succ]
  go_wp2
  go_region
  all_goals go_wp2
  rw [rounds_succ]
  go_wp2
  go_region
  all_goals go_wp2
  rw [rounds_succ]
  go_wp2
  go_region
  all_goals go_wp2
  rw [rounds_succ]
  go_wp2
  go_region
  all_goals go_wp2
  rw [rounds_succ]
  go_wp2
  go_ret
  have h1 := int_new (int_new (int_new (int_new (H.out.alloc (.cells #[.int .i64 1, .int .i64 1, .int .i64 1, .int .i64 1, .map (some (w.heap.size + 1)), .map (some (w.heap.size + 1 + 1)), .map (some (w.heap.size + 1 + 1 + 1)), .map (some (w.heap.size + 1 + 1 + 1 + 1))] 60)))))
  simp only [alloc_size] at h1
  exact ⟨_, rfl, seen_shut h1.r1.r2.r3.r4.drew.drew.drew.drew⟩
end
end Go.Proofs.Ytboomdjkgheonaa.PSeenPlays
