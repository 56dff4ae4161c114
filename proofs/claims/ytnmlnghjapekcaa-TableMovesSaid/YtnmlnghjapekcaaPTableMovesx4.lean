-- Written by a program of this session's (wip/gprint.py): the kit's print, with functions given by hand.
import Derived.Test.YtnmlnghjapekcaaPTableMovesx4a
import Derived.Test.YtnmlnghjapekcaaPTableMovesx4b1
import Derived.Test.YtnmlnghjapekcaaPTableMovesx4b0
namespace Go.Proofs.Ytnmlnghjapekcaa.PTableMoves
open Go.RowKit Go.Proofs.YtnmlnghjapekcaaW.PrintWords Go.Proofs.YtnmlnghjapekcaaW.PrintLast Go.Proofs.YtnmlnghjapekcaaW.PrintMore
attribute [local go_sem] max2_int min2_int max_two min_two max_three min_three max_four min_four   -- for this text's walks alone
set_option linter.unusedVariables false
set_option linter.unusedSimpArgs false
theorem meterlaw17_TableMoves.calls (k : Nat) (a0 : Int) (a1 : Int) (A2 : Option Addr) (c2 : Nat) (l2 : List (S43)) (r : Bool) (w : World) (hr2 : Kd.C k43 w A2 l2.length l2) (hc2 : l2.length ≤ c2) (h : meterlaw17_TableMoves.f k a0 a1 l2 = some r) (hrt_ : r = true) : Calls Try.prog 6 #[.int .u8 a0, .int .u8 a1, .slice A2 l2.length c2] w fun e w' => e = .returned (.bool r) ∧ Below w.heap.size w w' := meterlaw17_TableMoves.calls_cut.2 ⟨meterlaw17_TableMoves.calls_cut1.2 ⟨meterlaw17_TableMoves.calls_part0⟩⟩ k a0 a1 A2 c2 l2 r w hr2 hc2 h hrt_
def Q43 (x : S43) : Prop := ((Lit.int .i64 x.f0).wf = true) ∧ ((Lit.int .i64 x.f1).wf = true)
/-- THE ONE PURE STATEMENT of meterlaw17_TableMoves: yours. -/
def meterlaw17_TableMoves.Pure : Prop := ∀ (a0 : Int) (a1 : Int) (l2 : List (S43)), (Lit.int .u8 a0).wf = true → (Lit.int .u8 a1).wf = true → ((l2).length ≤ 9223372036854775807 ∧ ∀ x0_ ∈ l2, Q43 x0_) → ∃ k, meterlaw17_TableMoves.f k a0 a1 l2 = some true
theorem meterlaw17_TableMoves.walk (P : meterlaw17_TableMoves.Pure) (a0 : Int) (a1 : Int) (A2 : Option Addr) (c2 : Nat) (l2 : List (S43)) (w : World) (hr2 : Kd.C k43 w A2 l2.length l2) (hc2 : l2.length ≤ c2) (y0_ : (Lit.int .u8 a0).wf = true) (y1_ : (Lit.int .u8 a1).wf = true) (y2_ : ((l2).length ≤ 9223372036854775807 ∧ ∀ x0_ ∈ l2, Q43 x0_)) :
    Calls Try.prog 6 #[.int .u8 a0, .int .u8 a1, .slice A2 l2.length c2] w fun e w' => e = .returned (.bool true) ∧ Below w.heap.size w w' := by
  obtain ⟨k, h⟩ := P a0 a1 l2 y0_ y1_ y2_
  refine (meterlaw17_TableMoves.calls k a0 a1 A2 c2 l2 true w hr2 hc2 h rfl).mono ?_
  rintro e w' ⟨rfl, hd⟩
  exact ⟨rfl, hd⟩

end Go.Proofs.Ytnmlnghjapekcaa.PTableMoves
