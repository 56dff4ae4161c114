/- The law SeenNobody, walked. -/
import Derived.Test.YtboomdjkgheonaaSeen5
namespace Go.Proofs.Ytboomdjkgheonaa.PSeenPlays
open Go.RowKit Go.Proofs.YtboomdjkgheonaaW.PrintWords Go.Proofs.YtboomdjkgheonaaW.PrintLast Go.Proofs.YtboomdjkgheonaaW.PrintMore
open Go.Proofs.YtboomdjkgheonaaO
attribute [local go_sem] max2_int min2_int max_two min_two max_three min_three max_four min_four
set_option linter.unusedVariables false
set_option linter.unusedSimpArgs false
set_option maxHeartbeats 4000000 in
set_option maxRecDepth 100000 in
theorem SeenNobody_law (src seq low code : Int) (w : World) (h0 : (Lit.int .i64 src).wf = true) (h1 : (Lit.int .i64 seq).wf = true) (h2 : (Lit.int .i64 low).wf = true) (h3 : (Lit.int .i64 code).wf = true) :
    Calls Try.prog 5 #[.int .i64 src, .int .i64 seq, .int .i64 low, .int .i64 code] w fun e w' => e = .returned (.bool true) ∧ Below w.heap.size w w' := by
  have H := Aside0.mk (Own.nil w)
  clear h0 h1 h2 h3
  go_enter Try.func5, Try.ntmps5
  go_wp2_with (first
    | (go_at_call 9; (with_reducible refine (SeenAsk_nil w src seq low).mono ?_); rintro e w2 ⟨rfl, rfl⟩)
    | (go_at_call 10; (with_reducible refine (SeenNote_nil H.out src seq low code).mono ?_); rintro e w3 ⟨rfl, h⟩; have H3 := Aside0.mk h; clear h)
    | (go_at_call 11; (with_reducible refine (SeenLows_nil _).mono ?_); rintro e w4 ⟨rfl, rfl⟩)
    | (go_at_call 14; (with_reducible refine (SeenAll_nil _).mono ?_); rintro e w4 ⟨rfl, rfl⟩)
    | (go_at_call 15; (with_reducible refine (SeenTwin_nil _).mono ?_); rintro e w4 ⟨rfl, rfl⟩)
    | (go_at_call 13; (with_reducible refine (wakes_calls _).mono ?_); rintro e w5 ⟨rfl, h⟩; have H5 := Aside0.mk (H3.out.below h); clear h))
  go_ret
  exact ⟨rfl, H5.out.bel⟩
end Go.Proofs.Ytboomdjkgheonaa.PSeenPlays
