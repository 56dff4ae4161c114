-- Written by a program of this session's (wip/gprint.py): the kit's print, with functions given by hand.
import Derived.Test.YtojedfmmijglnaaPSpreadTellsx7a
import Derived.Test.YtojedfmmijglnaaPSpreadTellsx7b2
import Derived.Test.YtojedfmmijglnaaPSpreadTellsx7b0
import Derived.Test.YtojedfmmijglnaaPSpreadTellsx7b1
namespace Go.Proofs.Ytojedfmmijglnaa.PSpreadTells
open Go.RowKit Go.Proofs.YtojedfmmijglnaaW.PrintWords Go.Proofs.YtojedfmmijglnaaW.PrintLast Go.Proofs.YtojedfmmijglnaaW.PrintMore
attribute [local go_sem] max2_int min2_int max_two min_two max_three min_three max_four min_four   -- for this text's walks alone
set_option linter.unusedVariables false
set_option linter.unusedSimpArgs false
theorem meterlaw18_SpreadTells.calls (k : Nat) (a0_0 : Int) (a0_1 : Int) (A0_2 : Option Addr) (c0_2 : Nat) (l0_2 : List Int) (a1_0 : Int) (a1_1 : Int) (A1_2 : Option Addr) (c1_2 : Nat) (l1_2 : List Int) (a2 : Int) (A3 : Option Addr) (c3 : Nat) (l3 : List (S39)) (r : Bool) (w : World) (hr0_2 : Kd.C (Kd.int .i64) w A0_2 l0_2.length l0_2) (hc0_2 : l0_2.length ≤ c0_2) (hr1_2 : Kd.C (Kd.int .i64) w A1_2 l1_2.length l1_2) (hc1_2 : l1_2.length ≤ c1_2) (hr3 : Kd.C k39 w A3 l3.length l3) (hc3 : l3.length ≤ c3) (h : meterlaw18_SpreadTells.f k a0_0 a0_1 l0_2 a1_0 a1_1 l1_2 a2 l3 = some r) (hrt_ : r = true) : Calls Try.prog 5 #[.agg #[.int .i64 a0_0, .int .i64 a0_1, .slice A0_2 l0_2.length c0_2], .agg #[.int .i64 a1_0, .int .i64 a1_1, .slice A1_2 l1_2.length c1_2], .int .i64 a2, .slice A3 l3.length c3] w fun e w' => e = .returned (.bool r) ∧ Below w.heap.size w w' := meterlaw18_SpreadTells.calls_cut.2 ⟨meterlaw18_SpreadTells.calls_cut2.2.2 ⟨meterlaw18_SpreadTells.calls_part0⟩ ⟨meterlaw18_SpreadTells.calls_part1⟩⟩ k a0_0 a0_1 A0_2 c0_2 l0_2 a1_0 a1_1 A1_2 c1_2 l1_2 a2 A3 c3 l3 r w hr0_2 hc0_2 hr1_2 hc1_2 hr3 hc3 h hrt_
def Q24 (x : S24) : Prop := ((Lit.int .i64 x.f0).wf = true) ∧ ((Lit.int .i64 x.f1).wf = true) ∧ (((x.f2).length ≤ 9223372036854775807 ∧ ∀ x0_ ∈ x.f2, (Lit.int .i64 x0_).wf = true))
def Q39 (x : S39) : Prop := ((Lit.int .i64 x.f0).wf = true) ∧ ((Lit.int .i64 x.f1).wf = true)
/-- THE ONE PURE STATEMENT of meterlaw18_SpreadTells: yours. -/
def meterlaw18_SpreadTells.Pure : Prop := ∀ (a0_0 : Int) (a0_1 : Int) (l0_2 : List Int) (a1_0 : Int) (a1_1 : Int) (l1_2 : List Int) (a2 : Int) (l3 : List (S39)), (Lit.int .i64 a0_0).wf = true → (Lit.int .i64 a0_1).wf = true → ((l0_2).length ≤ 9223372036854775807 ∧ ∀ x0_ ∈ l0_2, (Lit.int .i64 x0_).wf = true) → (Lit.int .i64 a1_0).wf = true → (Lit.int .i64 a1_1).wf = true → ((l1_2).length ≤ 9223372036854775807 ∧ ∀ x0_ ∈ l1_2, (Lit.int .i64 x0_).wf = true) → (Lit.int .i64 a2).wf = true → ((l3).length ≤ 9223372036854775807 ∧ ∀ x0_ ∈ l3, Q39 x0_) → ∃ k, meterlaw18_SpreadTells.f k a0_0 a0_1 l0_2 a1_0 a1_1 l1_2 a2 l3 = some true
theorem meterlaw18_SpreadTells.walk (P : meterlaw18_SpreadTells.Pure) (a0_0 : Int) (a0_1 : Int) (A0_2 : Option Addr) (c0_2 : Nat) (l0_2 : List Int) (a1_0 : Int) (a1_1 : Int) (A1_2 : Option Addr) (c1_2 : Nat) (l1_2 : List Int) (a2 : Int) (A3 : Option Addr) (c3 : Nat) (l3 : List (S39)) (w : World) (hr0_2 : Kd.C (Kd.int .i64) w A0_2 l0_2.length l0_2) (hc0_2 : l0_2.length ≤ c0_2) (hr1_2 : Kd.C (Kd.int .i64) w A1_2 l1_2.length l1_2) (hc1_2 : l1_2.length ≤ c1_2) (hr3 : Kd.C k39 w A3 l3.length l3) (hc3 : l3.length ≤ c3) (y0_ : (Lit.int .i64 a0_0).wf = true) (y1_ : (Lit.int .i64 a0_1).wf = true) (y2_ : ((l0_2).length ≤ 9223372036854775807 ∧ ∀ x0_ ∈ l0_2, (Lit.int .i64 x0_).wf = true)) (y3_ : (Lit.int .i64 a1_0).wf = true) (y4_ : (Lit.int .i64 a1_1).wf = true) (y5_ : ((l1_2).length ≤ 9223372036854775807 ∧ ∀ x0_ ∈ l1_2, (Lit.int .i64 x0_).wf = true)) (y6_ : (Lit.int .i64 a2).wf = true) (y7_ : ((l3).length ≤ 9223372036854775807 ∧ ∀ x0_ ∈ l3, Q39 x0_)) :
    Calls Try.prog 5 #[.agg #[.int .i64 a0_0, .int .i64 a0_1, .slice A0_2 l0_2.length c0_2], .agg #[.int .i64 a1_0, .int .i64 a1_1, .slice A1_2 l1_2.length c1_2], .int .i64 a2, .slice A3 l3.length c3] w fun e w' => e = .returned (.bool true) ∧ Below w.heap.size w w' := by
  obtain ⟨k, h⟩ := P a0_0 a0_1 l0_2 a1_0 a1_1 l1_2 a2 l3 y0_ y1_ y2_ y3_ y4_ y5_ y6_ y7_
  refine (meterlaw18_SpreadTells.calls k a0_0 a0_1 A0_2 c0_2 l0_2 a1_0 a1_1 A1_2 c1_2 l1_2 a2 A3 c3 l3 true w hr0_2 hc0_2 hr1_2 hc1_2 hr3 hc3 h rfl).mono ?_
  rintro e w' ⟨rfl, hd⟩
  exact ⟨rfl, hd⟩

end Go.Proofs.Ytojedfmmijglnaa.PSpreadTells
